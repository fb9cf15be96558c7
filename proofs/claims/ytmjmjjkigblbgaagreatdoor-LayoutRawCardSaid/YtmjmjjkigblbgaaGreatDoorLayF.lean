/- Shares: leaves, comparisons, the statement. -/
import Derived.Test.YtmjmjjkigblbgaaGreatDoorLayE
set_option linter.unusedVariables false
set_option linter.unusedSimpArgs false
set_option maxRecDepth 8192
namespace Go.Proofs.YtmjmjjkigblbgaaGreatDoor
open Go Go.F Go.RowKit

theorem el_lt {l : List (List UInt8)} {n : Nat} (h : ∀ x ∈ l, x.length < n) {k : Nat} (hk : k < l.length) : (l.getD k []).length < n := by
 rw [List.getD_eq_getElem?_getD, List.getElem?_eq_getElem hk]; exact h _ (List.getElem_mem _)
theorem leavesH_all (B : List (List UInt8)) (k : Nat) : ∀ x ∈ Go.Au.leavesH B k, x.length = 32 := by
 intro x hx
 obtain ⟨y, _, rfl⟩ := List.mem_map.1 hx
 exact Go.Au.leafH_len _
theorem cs_end {H : Hp} {w w' : World} {sn : Int} {u : List UInt8} {p B D3 : List (List UInt8)} {a1 a2 a3 : Option Addr} {n1 n2 n3 c1 c2 c3 : Nat} (e3 : D3 = Go.Au.cutN 80 B 20)
  (r1 : Rd (F.ext H w.heap.size w') (.slice a1 n1 c1) n1 1 ((u.take 200).map bV)) (r2 : RdH (F.ext H w.heap.size w') (.slice a2 n2 c2) 32 (p.take 6)) (r3 : RdL (F.ext H w.heap.size w') (.slice a3 n3 c3) D3) (hB : Below w.heap.size w w') :
  ∃ a1' c1' a2' c2' a3' c3', Ending.returned (.agg #[.int .i64 sn, .slice a1 n1 c1, .slice a2 n2 c2, .slice a3 n3 c3]) = .returned (.agg #[.int .i64 sn, .slice a1' (u.take 200).length c1', .slice a2' (p.take 6).length c2', .slice a3' (Go.Au.cutN 80 B 20).length c3']) ∧ Rd (F.ext H w.heap.size w') (.slice a1' (u.take 200).length c1') (u.take 200).length 1 ((u.take 200).map bV) ∧ RdH (F.ext H w.heap.size w') (.slice a2' (p.take 6).length c2') 32 (p.take 6) ∧ RdL (F.ext H w.heap.size w') (.slice a3' (Go.Au.cutN 80 B 20).length c3') (Go.Au.cutN 80 B 20) ∧ Below w.heap.size w w' := by
 rw [← e3]
 obtain rfl := r1.lenB
 obtain rfl := r2.len
 obtain rfl := r3.len
 exact ⟨a1, c1, a2, c2, a3, c3, rfl, r1, r2, r3, hB⟩
theorem leavesR_ok {H : Hp} {w : World} (hH : H.le (hw w)) {B : List (List UInt8)} {aa0 : Option Addr} {nn0 cc0 : Nat} (hv : RdL H (.slice aa0 nn0 cc0) B) (hB : B.length ≤ 100) (hx : ∀ x ∈ B, x.length < 1000) :
  Calls Tryz.prog 78 #[.slice aa0 nn0 cc0] w fun e w' => ∃ a c, B.length ≤ c ∧ e = .returned (.slice a B.length c) ∧ rowZ w' w.heap.size 27 32 (.slice a B.length c) B.length (hcells (Go.Au.leavesH B B.length)) ∧ Below w.heap.size w w' := by
 obtain rfl : nn0 = B.length := hv.len
 refine enter1 _ Tryz.func78 rfl Tryz.ntmps78 Tryz.results78 rfl ?_
 have S0 := St.start w hH
 refine Wr ?_
 refine Pv ?_
 refine T_nil ?_
 refine Wr ?_
 refine Pv ?_
 refine T_nil ?_
 refine W_seq ?_
 refine Wr ?_
 iterate 3 refine Pv ?_
 refine T_nil ?_
 refine W_block ?_
 have S1 := S0.nilRow 27 32
 refine W_loop (fun M ρ w' => ∃ (k : Nat) (a4 : Option Addr) (c5 : Nat) (G2 : Hp), M = B.length - k ∧ k ≤ B.length ∧ ρ = [(0, .slice aa0 B.length cc0), (3, .slice a4 k c5), (6, .int .i64 ((B.length : Nat) : Int)), (7, .int .i64 (k : Int))] ∧ H.le G2 ∧ St w H G2 [.row 27 32 (.slice a4 k c5) k (hcells (Go.Au.leavesH B k))] w' ∧ (∀ y ∈ Go.Au.leavesH B k, y.length = 32) ∧ k ≤ c5)
  (B.length - 0) [(0, .slice aa0 B.length cc0), (3, .slice none 0 0), (6, .int .i64 ((B.length : Nat) : Int)), (7, .int .i64 ((0 : Nat) : Int))] ⟨rfl, rfl, (congrArg (fun z => some (Value.int .i64 z)) (by omega)), (congrArg (fun z => some (Value.int .i64 z)) (by omega)), trivial⟩ ⟨0, none, 0, H, rfl, (by omega), rfl, Hp.le.refl _, S1, (fun _ h => by cases h), (Nat.le_refl _)⟩ ?_
 rintro M ρ w8 ⟨k, a4, c5, G2, rfl, hp10, rfl, hl3, S9, hh7, hc6⟩
 refine Wr ?_
 refine Pv ?_
 refine T_nil ?_
 refine W_seq ?_
 refine W_cond_dec rfl (fun h11 => ?_) (fun h11 => ?_)
 ·refine W_skip ?_
  refine W_seq ?_
  refine W_block ?_
  refine Wr ?_
  iterate 2 refine Pv ?_
  refine T_nil ?_
  refine W_region ?_
  iterate 3 refine Pv ?_
  obtain ⟨hs15, r16, r17⟩ := (hv.mono hl3)
  refine T_idxR k r16 rfl rfl rfl rfl rfl rfl rfl rfl rfl (by omega) (by omega) fun b12 o13 hc14 => ?_
  obtain ⟨a20, c21, hc23, hv19, r22⟩ := r17.at k (by omega)
  have hc24 := hc14 0 (.slice a20 (B.getD k []).length c21) (by simpa using hv19)
  simp only [Nat.add_zero] at hc24
  refine T_loadG S9 hc24 rfl rfl rfl rfl rfl rfl rfl ?_
  have hel := el_lt hx (k := k) (by omega)
  refine T_callS rfl rfl g_aumbry_aumbryref07_Leaf rfl rfl rfl rfl ((leafR_ok S9.le r22 (by omega)).mono ?_)
  rintro e w26 ⟨rfl, hB25⟩
  have S27 := S9.call hB25
  refine ⟨_, rfl, trivial, ?_⟩
  refine T_litS (hcells [Go.Au.leafH (B.getD k [])]) rfl rfl rfl rfl rfl rfl rfl rfl rfl rfl rfl rfl rfl (one_h (Go.Au.leafH_len _)) (by simp [hcells, hV, Value.cells]) fun a28 w29 hB30 ho31 => ?_
  have S32 := S27.own hB30 ho31
  refine ⟨trivial, ?_⟩
  have hD33 : (Go.Au.leavesH B k ++ [Go.Au.leafH (B.getD k [])]) = Go.Au.leavesH B (k + 1) := (Go.Au.leavesH_snoc (by omega))
  refine T_appendS 1 (k + 1) (hcells (Go.Au.leavesH B (k + 1))) S32 (fun _ _ => trivial) rfl rfl rfl rfl rfl rfl rfl rfl rfl rfl rfl rfl rfl rfl (S32.rd 0 rfl) (one_hcells _) (by first | rfl | (simp; done) | (simp; omega) | omega) (by rw [← hD33]; simp [hcells_append, hcells]) (by unfold maxLen; omega) (by show _ * 32 ≤ _; omega) fun a34 c35 w36 hc37 S38 => ?_
  have hh39 : ∀ y ∈ Go.Au.leavesH B (k + 1), y.length = 32 := by rw [← hD33]; exact (all_app hh7 (all_h1 (Go.Au.leafH_len _)))
  refine Pv ?_
  refine T_nil ?_
  refine W_region ?_
  refine T_ari rfl rfl rfl rfl (by omega) ?_
  refine Pv ?_
  refine T_nil ?_
  have S40 := S38.drop 0
  exact ⟨B.length - (k + 1), [(0, .slice aa0 B.length cc0), (3, .slice a34 (k + 1) c35), (6, .int .i64 ((B.length : Nat) : Int)), (7, .int .i64 ((k + 1 : Nat) : Int))], by omega, ⟨rfl, rfl, (congrArg (fun z => some (Value.int .i64 z)) (by omega)), (congrArg (fun z => some (Value.int .i64 z)) (by omega)), trivial⟩, k + 1, a34, c35, G2, rfl, (by omega), rfl, hl3, S40, hh39, hc37⟩
 refine W_exit ?_
 refine Wr ?_
 iterate 2 refine Pv ?_
 refine T_nil ?_
 refine W_ret ?_
 refine ⟨_, ⟨_, _, rfl, rfl, rfl⟩, ?_⟩
 obtain rfl : k = B.length := by omega
 exact ⟨_, _, hc6, rfl, S9.row 0 rfl, S9.below⟩


theorem shareLeaf_ok {H : Hp} {w : World} (hH : H.le (hw w)) (hT : Tabs H) (sn : Int) {u : List UInt8} {p B : List (List UInt8)} {a1 a2 a3 : Option Addr} {n1 n2 n3 c1 c2 c3 : Nat} (h1 : Rd H (.slice a1 n1 c1) n1 1 (u.map bV)) (h2 : RdH H (.slice a2 n2 c2) 32 p) (h3 : RdL H (.slice a3 n3 c3) B) (hB : B.length ≤ 100) (HX1 : ∀ x ∈ B, x.length < 1000) :
  Calls Tryz.prog 29 #[.agg #[.int .i64 sn, .slice a1 n1 c1, .slice a2 n2 c2, .slice a3 n3 c3]] w fun e w' => e = .returned (hV (Go.Au.root (Go.Au.leavesH B B.length))) ∧ Below w.heap.size w w' := by
 obtain rfl : n1 = u.length := h1.lenB
 obtain rfl : n2 = p.length := h2.len
 obtain rfl : n3 = B.length := h3.len
 refine enter1 _ Tryz.func29 rfl Tryz.ntmps29 Tryz.results29 rfl ?_
 have S0 := St.start w hH
 refine Wr ?_
 refine T_boxS S0 (fun _ _ => trivial) rfl rfl rfl rfl rfl rfl fun b1 w2 S3 => ?_
 refine T_allocS S3 (fun _ _ => trivial) rfl rfl rfl rfl rfl rfl rfl fun b4 w5 S6 => ?_
 refine T_nil ?_
 refine Wr ?_
 refine Pv ?_
 refine T_nil ?_
 refine W_seq ?_
 refine Wr ?_
 refine Fl 3 ?_
 refine T_loadS 1 3 S6 rfl rfl rfl rfl rfl rfl rfl rfl rfl rfl ?_
 iterate 2 refine Pv ?_
 refine T_nil ?_
 refine W_block ?_
 have S7 := S6.nilRow 27 32
 refine W_loop (fun M ρ w' => ∃ (k : Nat) (a10 : Option Addr) (c11 : Nat) (G8 : Hp), M = B.length - k ∧ k ≤ B.length ∧ ρ = [(2, .pointer (some ⟨b4, 0, none⟩)), (3, .slice a10 k c11), (7, .slice a3 B.length c3), (8, .int .i64 ((B.length : Nat) : Int)), (9, .int .i64 (k : Int))] ∧ H.le G8 ∧ St w H G8 [.row 27 32 (.slice a10 k c11) k (hcells (Go.Au.leavesH B k)), .blk b4 (hV (List.replicate 32 0) : Value).cells 27, .blk b1 (.agg #[.int .i64 sn, .slice a1 u.length c1, .slice a2 p.length c2, .slice a3 B.length c3] : Value).cells 37] w' ∧ (∀ y ∈ Go.Au.leavesH B k, y.length = 32) ∧ k ≤ c11)
  (B.length - 0) [(2, .pointer (some ⟨b4, 0, none⟩)), (3, .slice none 0 0), (7, .slice a3 B.length c3), (8, .int .i64 ((B.length : Nat) : Int)), (9, .int .i64 ((0 : Nat) : Int))] ⟨rfl, rfl, rfl, (congrArg (fun z => some (Value.int .i64 z)) (by omega)), (congrArg (fun z => some (Value.int .i64 z)) (by omega)), trivial⟩ ⟨0, none, 0, H, rfl, (by omega), rfl, Hp.le.refl _, S7, (fun _ h => by cases h), (Nat.le_refl _)⟩ ?_
 rintro M ρ w14 ⟨k, a10, c11, G8, rfl, hp16, rfl, hl9, S15, hh13, hc12⟩
 refine Wr ?_
 refine Pv ?_
 refine T_nil ?_
 refine W_seq ?_
 refine W_cond_dec rfl (fun h17 => ?_) (fun h17 => ?_)
 ·refine W_skip ?_
  refine W_seq ?_
  refine W_block ?_
  refine Wr ?_
  obtain ⟨hs21, r22, r23⟩ := (h3.mono hl9)
  refine T_idxR k r22 rfl rfl rfl rfl rfl rfl rfl rfl rfl (by omega) (by omega) fun b18 o19 hc20 => ?_
  obtain ⟨a26, c27, hc29, hv25, r28⟩ := r23.at k (by omega)
  have hc30 := hc20 0 (.slice a26 (B.getD k []).length c27) (by simpa using hv25)
  simp only [Nat.add_zero] at hc30
  refine T_loadG S15 hc30 rfl rfl rfl rfl rfl rfl rfl ?_
  refine Pv ?_
  refine T_nil ?_
  refine W_region ?_
  iterate 2 refine Pv ?_
  have hel := el_lt HX1 (k := k) (by omega)
  refine T_callS rfl rfl g_aumbry_tree_Leaf rfl rfl rfl rfl ((leaf_ok S15.le (hT.mono hl9) r28 (by omega)).mono ?_)
  rintro e w32 ⟨rfl, hB31⟩
  have S33 := S15.call hB31
  refine ⟨_, rfl, trivial, ?_⟩
  refine T_litS (hcells [Go.Au.leafH (B.getD k [])]) rfl rfl rfl rfl rfl rfl rfl rfl rfl rfl rfl rfl rfl (one_h (Go.Au.leafH_len _)) (by simp [hcells, hV, Value.cells]) fun a34 w35 hB36 ho37 => ?_
  have S38 := S33.own hB36 ho37
  refine ⟨trivial, ?_⟩
  have hD39 : (Go.Au.leavesH B k ++ [Go.Au.leafH (B.getD k [])]) = Go.Au.leavesH B (k + 1) := (Go.Au.leavesH_snoc (by omega))
  refine T_appendS 1 (k + 1) (hcells (Go.Au.leavesH B (k + 1))) S38 (fun _ _ => trivial) rfl rfl rfl rfl rfl rfl rfl rfl rfl rfl rfl rfl rfl rfl (S38.rd 0 rfl) (one_hcells _) (by first | rfl | (simp; done) | (simp; omega) | omega) (by rw [← hD39]; simp [hcells_append, hcells]) (by unfold maxLen; omega) (by show _ * 32 ≤ _; omega) fun a40 c41 w42 hc43 S44 => ?_
  have hh45 : ∀ y ∈ Go.Au.leavesH B (k + 1), y.length = 32 := by rw [← hD39]; exact (all_app hh13 (all_h1 (Go.Au.leafH_len _)))
  refine Pv ?_
  refine T_nil ?_
  refine W_region ?_
  refine T_ari rfl rfl rfl rfl (by omega) ?_
  refine Pv ?_
  refine T_nil ?_
  have S46 := S44.drop 0
  exact ⟨B.length - (k + 1), [(2, .pointer (some ⟨b4, 0, none⟩)), (3, .slice a40 (k + 1) c41), (7, .slice a3 B.length c3), (8, .int .i64 ((B.length : Nat) : Int)), (9, .int .i64 ((k + 1 : Nat) : Int))], by omega, ⟨rfl, rfl, rfl, (congrArg (fun z => some (Value.int .i64 z)) (by omega)), (congrArg (fun z => some (Value.int .i64 z)) (by omega)), trivial⟩, k + 1, a40, c41, G8, rfl, (by omega), rfl, hl9, S46, hh45, hc43⟩
 refine W_exit ?_
 refine Wr ?_
 have hll : (Go.Au.leavesH B k).length ≤ 100 := by rw [show k = B.length by omega, Go.Au.leavesH_len]; omega
 refine Pv ?_
 obtain ⟨G48, hl49, S47, r50⟩ := S15.stillRow 0 rfl
 have r51 := RdH.mk hh13 (by decide) r50
 refine T_callS rfl rfl g_aumbry_tree_Root rfl rfl rfl rfl ((root_ok S47.le (hT.mono (hl9.trans hl49)) r51 (by omega)).mono ?_)
 rintro e w53 ⟨rfl, hB52⟩
 have S54 := S47.call hB52
 refine ⟨_, rfl, trivial, ?_⟩
 refine T_re (v' := hV (Go.Au.root (Go.Au.leavesH B B.length))) (congrArg (fun q => hV (Go.Au.root (Go.Au.leavesH B q))) (show k = B.length by omega)) ?_
 refine T_storeFS 0 S54 (fun _ _ => trivial) rfl rfl rfl rfl rfl rfl rfl rfl rfl (hVs (Go.Au.root_len (leavesH_all _ _))) (hVs (Go.Au.root_len (leavesH_all _ _))) (one_hA _) fun w55 S56 => ?_
 refine T_nil ?_
 refine W_ret ?_
 refine ⟨_, ⟨_, _, _, rfl, rfl, run_loadVarA rfl rfl (hVs (Go.Au.root_len (leavesH_all _ _))) (S56.cells 0 rfl), rfl⟩, ?_⟩
 exact ⟨rfl, S56.below⟩


theorem shareLeafR_ok {H : Hp} {w : World} (hH : H.le (hw w)) (sn : Int) {u : List UInt8} {p B : List (List UInt8)} {a1 a2 a3 : Option Addr} {n1 n2 n3 c1 c2 c3 : Nat} (h1 : Rd H (.slice a1 n1 c1) n1 1 (u.map bV)) (h2 : RdH H (.slice a2 n2 c2) 32 p) (h3 : RdL H (.slice a3 n3 c3) B) (hB : B.length ≤ 100) (HX1 : ∀ x ∈ B, x.length < 1000) :
  Calls Tryz.prog 37 #[.agg #[.int .i64 sn, .slice a1 n1 c1, .slice a2 n2 c2, .slice a3 n3 c3]] w fun e w' => e = .returned (hV (Go.Au.root (Go.Au.leavesH B B.length))) ∧ Below w.heap.size w w' := by
 obtain rfl : n1 = u.length := h1.lenB
 obtain rfl : n2 = p.length := h2.len
 obtain rfl : n3 = B.length := h3.len
 have hll : (Go.Au.leavesH B B.length).length ≤ 100 := by rw [Go.Au.leavesH_len]; omega
 refine enter1 _ Tryz.func37 rfl Tryz.ntmps37 Tryz.results37 rfl ?_
 have S0 := St.start w hH
 refine Wr ?_
 refine T_boxS S0 (fun _ _ => trivial) rfl rfl rfl rfl rfl rfl fun b1 w2 S3 => ?_
 refine T_allocS S3 (fun _ _ => trivial) rfl rfl rfl rfl rfl rfl rfl fun b4 w5 S6 => ?_
 refine T_nil ?_
 refine Wr ?_
 refine Fl 3 ?_
 refine T_loadS 1 3 S6 rfl rfl rfl rfl rfl rfl rfl rfl rfl rfl ?_
 refine T_callS rfl rfl g_aumbry_aumbryref13_leaves rfl rfl rfl rfl ((leavesR_ok S6.le h3 (by omega) HX1).mono ?_)
 rintro e w12 ⟨a7, c8, hc9, rfl, ho10, hB11⟩
 have S13 := S6.own hB11 ho10
 refine ⟨_, rfl, trivial, ?_⟩
 obtain ⟨G15, hl16, S14, r17⟩ := S13.stillRow 0 rfl
 have r18 := RdH.mk (leavesH_all _ _) (by decide) r17
 refine T_callS rfl rfl g_aumbry_aumbryref07_Root rfl rfl rfl rfl ((rootR_ok S14.le r18 (by omega)).mono ?_)
 rintro e w20 ⟨rfl, hB19⟩
 have S21 := S14.call hB19
 refine ⟨_, rfl, trivial, ?_⟩
 refine T_storeFS 0 S21 (fun _ _ => trivial) rfl rfl rfl rfl rfl rfl rfl rfl rfl (hVs (Go.Au.root_len r18.1)) (hVs (Go.Au.root_len r18.1)) (one_hA _) fun w22 S23 => ?_
 refine T_nil ?_
 refine W_ret ?_
 refine ⟨_, ⟨_, _, _, rfl, rfl, run_loadVarA rfl rfl (hVs (Go.Au.root_len r18.1)) (S23.cells 0 rfl), rfl⟩, ?_⟩
 exact ⟨rfl, S23.below⟩






theorem cutShare_ok {H : Hp} {w : World} (hH : H.le (hw w)) (sn : Int) {u : List UInt8} {p B : List (List UInt8)} {a1 a2 a3 : Option Addr} {n1 n2 n3 c1 c2 c3 : Nat} (h1 : Rd H (.slice a1 n1 c1) n1 1 (u.map bV)) (h2 : RdH H (.slice a2 n2 c2) 32 p) (h3 : RdL H (.slice a3 n3 c3) B) :
  Calls Tryz.prog 21 #[.agg #[.int .i64 sn, .slice a1 n1 c1, .slice a2 n2 c2, .slice a3 n3 c3]] w fun e w' => ∃ a1 c1 a2 c2 a3 c3, e = .returned (.agg #[.int .i64 sn, .slice a1 (u.take 200).length c1, .slice a2 (p.take 6).length c2, .slice a3 (Go.Au.cutN 80 B 20).length c3]) ∧ Rd (F.ext H w.heap.size w') (.slice a1 (u.take 200).length c1) (u.take 200).length 1 ((u.take 200).map bV) ∧ RdH (F.ext H w.heap.size w') (.slice a2 (p.take 6).length c2) 32 (p.take 6) ∧ RdL (F.ext H w.heap.size w') (.slice a3 (Go.Au.cutN 80 B 20).length c3) (Go.Au.cutN 80 B 20) ∧ Below w.heap.size w w' := by
 obtain rfl : n1 = u.length := h1.lenB
 obtain rfl : n2 = p.length := h2.len
 obtain rfl : n3 = B.length := h3.len
 refine enter1 _ Tryz.func21 rfl Tryz.ntmps21 Tryz.results21 rfl ?_
 have S0 := St.start w hH
 refine Wr ?_
 refine T_boxS S0 (fun _ _ => trivial) rfl rfl rfl rfl rfl rfl fun b1 w2 S3 => ?_
 refine T_allocS S3 (fun _ _ => trivial) rfl rfl rfl rfl rfl rfl rfl fun b4 w5 S6 => ?_
 refine T_nil ?_
 refine W_seq ?_
 refine W_tree (plan Tryz.prog) (.step 0 (.step 1 (.step 3 (.fork 2 4 (.step 4 (.step 5 (.step 6 (.step 7 (.step 8 (.step 9 .done)))))) (.step 2 (.step 5 (.step 6 (.step 7 (.step 8 (.step 9 .done)))))))))) rfl (by kernel_rfl) trivial ?_
 have S7 := S6.drew
 refine TT_step rfl ?_
 refine Fl 1 ?_
 refine T_nil ?_
 refine TT_step rfl ?_
 refine T_loadS 1 1 S7 rfl rfl rfl rfl rfl rfl rfl rfl rfl rfl ?_
 refine T_nil ?_
 refine TT_step rfl ?_
 refine Fl 2 ?_
 refine T_nil ?_
 refine TT_fork rfl rfl ?_ ?_
 ·refine T_callS rfl rfl g_aumbry_aumbrykeep_Cut_byte rfl rfl rfl rfl ((cutB_ok S7.le h1 200).mono ?_)
  rintro e w13 ⟨a8, c9, hc10, rfl, hr11, hB12⟩
  have S14 := S7.call hB12
  refine ⟨_, rfl, trivial, ?_⟩
  refine T_nil ?_
  refine TT_step rfl ?_
  refine T_loadS 1 2 S14 rfl rfl rfl rfl rfl rfl rfl rfl rfl rfl ?_
  refine T_nil ?_
  refine TT_step rfl ?_
  refine T_callS rfl rfl g_aumbry_aumbrykeep_Cut_aumbry_api_Hash rfl rfl rfl rfl ((cutH_ok S14.le h2 6).mono ?_)
  rintro e w20 ⟨a15, c16, hc17, rfl, hr18, hB19⟩
  have S21 := S14.call hB19
  refine ⟨_, rfl, trivial, ?_⟩
  refine T_nil ?_
  refine TT_step rfl ?_
  refine Fl 1 ?_
  refine T_nil ?_
  refine TT_step rfl ?_
  refine T_store1S 1 1 S21 (fun _ _ => trivial) rfl rfl rfl rfl rfl rfl rfl rfl rfl rfl rfl rfl (show 1 < 4 by decide) fun w22 S23 => ?_
  have hE24 : (.agg #[.int .i64 sn, .slice a1 u.length c1, .slice a2 p.length c2, .slice a3 B.length c3] : Value).cells.setIfInBounds 1 (.slice a8 (u.take 200).length c9) = (.agg #[.int .i64 sn, .slice a8 (u.take 200).length c9, .slice a2 p.length c2, .slice a3 B.length c3] : Value).cells := rfl
  rw [hE24] at S23
  refine T_nil ?_
  refine TT_step rfl ?_
  refine Fl 2 ?_
  refine T_nil ?_
  refine TT_step rfl ?_
  refine T_store1S 1 2 S23 (fun _ _ => trivial) rfl rfl rfl rfl rfl rfl rfl rfl rfl rfl rfl rfl (show 2 < 4 by decide) fun w25 S26 => ?_
  have hE27 : (.agg #[.int .i64 sn, .slice a8 (u.take 200).length c9, .slice a2 p.length c2, .slice a3 B.length c3] : Value).cells.setIfInBounds 2 (.slice a15 (p.take 6).length c16) = (.agg #[.int .i64 sn, .slice a8 (u.take 200).length c9, .slice a15 (p.take 6).length c16, .slice a3 B.length c3] : Value).cells := rfl
  rw [hE27] at S26
  refine T_nil ?_
  refine TT_done ?_
  refine Wr ?_
  refine Pv ?_
  refine T_nil ?_
  refine W_seq ?_
  refine Wr ?_
  refine Pv ?_
  refine T_nil ?_
  refine W_block ?_
  have S28 := S26.nilRow 24 1
  have rs29 := Rds.nil H
  refine W_loop (fun M ρ w' => ∃ (k : Nat) (a32 : Option Addr) (c33 : Nat) (hs35 : List Value) (G30 : Hp), M = 20 - k ∧ k ≤ 20 ∧ k ≤ B.length ∧ ρ = [(1, .pointer (some ⟨b1, 0, none⟩)), (2, .pointer (some ⟨b4, 0, none⟩)), (3, .slice a32 k c33), (4, .int .i64 (k : Int))] ∧ H.le G30 ∧ St w H G30 [.row 24 1 (.slice a32 k c33) k hs35, .blk b4 (.agg #[.int .i64 0, .slice none 0 0, .slice none 0 0, .slice none 0 0] : Value).cells 37, .blk b1 (.agg #[.int .i64 sn, .slice a8 (u.take 200).length c9, .slice a15 (p.take 6).length c16, .slice a3 B.length c3] : Value).cells 37] w' ∧ Rds G30 hs35 (Go.Au.cutN 80 B k) ∧ k ≤ c33)
   (20 - 0) [(1, .pointer (some ⟨b1, 0, none⟩)), (2, .pointer (some ⟨b4, 0, none⟩)), (3, .slice none 0 0), (4, .int .i64 ((0 : Nat) : Int))] ⟨rfl, rfl, rfl, (congrArg (fun z => some (Value.int .i64 z)) (by omega)), trivial⟩ ⟨0, none, 0, _, H, rfl, (by omega), (by omega), rfl, Hp.le.refl _, S28, rs29, (Nat.le_refl _)⟩ ?_
  rintro M ρ w37 ⟨k, a32, c33, hs35, G30, rfl, hp39, hp40, rfl, hl31, S38, rs36, hc34⟩
  refine W_seq ?_
  refine Wr ?_
  refine Pv ?_
  refine Fl 3 ?_
  refine T_loadS 2 3 S38 rfl rfl rfl rfl rfl rfl rfl rfl rfl rfl ?_
  iterate 3 refine Pv ?_
  refine T_part (t := 18) rfl (List.cons_ne_nil _ _) (fun h41' => ?_) (fun h41' => ?_)
  ·have h41 := of_decide_eq_true h41'
   iterate 2 (refine Ys ?_; refine Pv ?_)
   refine Pv ?_
   refine T_nil ?_
   refine W_cond_dec rfl (fun h42 => ?_) (fun h42 => ?_)
   ·refine W_skip ?_
    refine W_seq ?_
    refine W_block ?_
    refine W_region ?_
    refine Pv ?_
    refine Fl 3 ?_
    refine T_loadS 2 3 S38 rfl rfl rfl rfl rfl rfl rfl rfl rfl rfl ?_
    refine Pv ?_
    obtain ⟨hs46, r47, r48⟩ := (h3.mono hl31)
    refine T_idxR k r47 rfl rfl rfl rfl rfl rfl rfl rfl rfl (by omega) (by omega) fun b43 o44 hc45 => ?_
    obtain ⟨a51, c52, hc54, hv50, r53⟩ := r48.at k (by omega)
    have hc55 := hc45 0 (.slice a51 (B.getD k []).length c52) (by simpa using hv50)
    simp only [Nat.add_zero] at hc55
    refine T_loadG S38 hc55 rfl rfl rfl rfl rfl rfl rfl ?_
    refine T_callS rfl rfl g_aumbry_aumbrykeep_Cut_byte rfl rfl rfl rfl ((cutB_ok S38.le r53 80).mono ?_)
    rintro e w61 ⟨a56, c57, hc58, rfl, hr59, hB60⟩
    have S62 := S38.call hB60
    refine ⟨_, rfl, trivial, ?_⟩
    have rs67 : Rds G30 [.slice a56 ((B.getD k []).take 80).length c57] [((B.getD k []).take 80)] := Rds.cons (Rd.canonB hr59) (Rds.nil _)
    refine T_litS [.slice a56 ((B.getD k []).take 80).length c57] rfl rfl rfl rfl rfl rfl rfl rfl rfl rfl rfl rfl rfl (by simp [Value.cells]; rfl) rfl fun a63 w64 hB65 ho66 => ?_
    have S68 := S62.own hB65 ho66
    refine ⟨trivial, ?_⟩
    have hD69 : (Go.Au.cutN 80 B k ++ [((B.getD k []).take 80)]) = Go.Au.cutN 80 B (k + 1) := (Go.Au.cutN_snoc (by omega))
    refine T_appendS 1 (k + 1) _ S68 (fun _ _ => trivial) rfl rfl rfl rfl rfl rfl rfl rfl rfl rfl rfl rfl rfl rfl (S68.rd 0 rfl) rs67.one (by first | rfl | (simp; done) | (simp; omega) | omega) rfl (by unfold maxLen; omega) (by show _ * 24 ≤ _; omega) fun a70 c71 w72 hc73 S74 => ?_
    have rs75 := Rds.append rs36 rs67
    rw [hD69] at rs75
    refine Pv ?_
    refine T_nil ?_
    refine W_region ?_
    refine Pv ?_
    refine T_ari rfl rfl rfl rfl (by omega) ?_
    refine Pv ?_
    refine T_nil ?_
    have S76 := S74.drop 0
    exact ⟨20 - (k + 1), [(1, .pointer (some ⟨b1, 0, none⟩)), (2, .pointer (some ⟨b4, 0, none⟩)), (3, .slice a70 (k + 1) c71), (4, .int .i64 ((k + 1 : Nat) : Int))], by omega, ⟨rfl, rfl, rfl, (congrArg (fun z => some (Value.int .i64 z)) (by omega)), trivial⟩, k + 1, a70, c71, _, G30, rfl, (by omega), (by omega), rfl, hl31, S76, rs75, hc73⟩
   refine W_exit ?_
   refine Wr ?_
   refine Pv ?_
   refine Fl 3 ?_
   refine T_store1S 2 3 S38 (fun _ _ => trivial) rfl rfl rfl rfl rfl rfl rfl rfl rfl rfl rfl rfl (show 3 < 4 by decide) fun w77 S78 => ?_
   have hE79 : (.agg #[.int .i64 sn, .slice a8 (u.take 200).length c9, .slice a15 (p.take 6).length c16, .slice a3 B.length c3] : Value).cells.setIfInBounds 3 (.slice a32 k c33) = (.agg #[.int .i64 sn, .slice a8 (u.take 200).length c9, .slice a15 (p.take 6).length c16, .slice a32 k c33] : Value).cells := rfl
   rw [hE79] at S78
   refine T_nil ?_
   refine Wr ?_
   refine T_loadFS 2 S78 rfl rfl rfl rfl rfl rfl rfl rfl rfl (by first | rfl | simp [hVs, *]) ?_
   refine T_storeFS 1 S78 (fun _ _ => trivial) rfl rfl rfl rfl rfl rfl rfl rfl rfl (by first | rfl | simp [hVs, *]) (by first | rfl | simp [hVs, *]) (one_all rfl) fun w80 S81 => ?_
   refine T_nil ?_
   refine W_ret ?_
   refine ⟨_, ⟨_, _, _, rfl, rfl, run_loadVarA rfl rfl (by first | rfl | simp [hVs, *]) (S81.cells 1 rfl), rfl⟩, ?_⟩
   obtain ⟨G83, hl84, S82, r85⟩ := S81.stillRow 0 rfl
   have r86 := RdL.mk r85 (rs36.mono hl84)
   exact cs_end (Go.Au.cutN_full (by omega) (by omega) (by omega)) (((hr11.mono (hl31.trans hl84))).mono S82.fin) (((hr18.mono (hl31.trans hl84))).mono S82.fin) ((r86).mono S82.fin) S82.below
  have h41 := of_decide_eq_false h41'
  iterate 2 refine No ?_
  refine Pv ?_
  refine T_nil ?_
  refine W_cond_false rfl ?_
  refine W_exit ?_
  refine Wr ?_
  refine Pv ?_
  refine Fl 3 ?_
  refine T_store1S 2 3 S38 (fun _ _ => trivial) rfl rfl rfl rfl rfl rfl rfl rfl rfl rfl rfl rfl (show 3 < 4 by decide) fun w87 S88 => ?_
  have hE89 : (.agg #[.int .i64 sn, .slice a8 (u.take 200).length c9, .slice a15 (p.take 6).length c16, .slice a3 B.length c3] : Value).cells.setIfInBounds 3 (.slice a32 k c33) = (.agg #[.int .i64 sn, .slice a8 (u.take 200).length c9, .slice a15 (p.take 6).length c16, .slice a32 k c33] : Value).cells := rfl
  rw [hE89] at S88
  refine T_nil ?_
  refine Wr ?_
  refine T_loadFS 2 S88 rfl rfl rfl rfl rfl rfl rfl rfl rfl (by first | rfl | simp [hVs, *]) ?_
  refine T_storeFS 1 S88 (fun _ _ => trivial) rfl rfl rfl rfl rfl rfl rfl rfl rfl (by first | rfl | simp [hVs, *]) (by first | rfl | simp [hVs, *]) (one_all rfl) fun w90 S91 => ?_
  refine T_nil ?_
  refine W_ret ?_
  refine ⟨_, ⟨_, _, _, rfl, rfl, run_loadVarA rfl rfl (by first | rfl | simp [hVs, *]) (S91.cells 1 rfl), rfl⟩, ?_⟩
  obtain ⟨G93, hl94, S92, r95⟩ := S91.stillRow 0 rfl
  have r96 := RdL.mk r95 (rs36.mono hl94)
  exact cs_end (Go.Au.cutN_full (by omega) (by omega) (by omega)) (((hr11.mono (hl31.trans hl94))).mono S92.fin) (((hr18.mono (hl31.trans hl94))).mono S92.fin) ((r96).mono S92.fin) S92.below
 refine T_loadS 1 2 S7 rfl rfl rfl rfl rfl rfl rfl rfl rfl rfl ?_
 refine T_nil ?_
 refine TT_step rfl ?_
 refine T_callS rfl rfl g_aumbry_aumbrykeep_Cut_byte rfl rfl rfl rfl ((cutB_ok S7.le h1 200).mono ?_)
 rintro e w102 ⟨a97, c98, hc99, rfl, hr100, hB101⟩
 have S103 := S7.call hB101
 refine ⟨_, rfl, trivial, ?_⟩
 refine T_nil ?_
 refine TT_step rfl ?_
 refine T_callS rfl rfl g_aumbry_aumbrykeep_Cut_aumbry_api_Hash rfl rfl rfl rfl ((cutH_ok S103.le h2 6).mono ?_)
 rintro e w109 ⟨a104, c105, hc106, rfl, hr107, hB108⟩
 have S110 := S103.call hB108
 refine ⟨_, rfl, trivial, ?_⟩
 refine T_nil ?_
 refine TT_step rfl ?_
 refine Fl 1 ?_
 refine T_nil ?_
 refine TT_step rfl ?_
 refine T_store1S 1 1 S110 (fun _ _ => trivial) rfl rfl rfl rfl rfl rfl rfl rfl rfl rfl rfl rfl (show 1 < 4 by decide) fun w111 S112 => ?_
 have hE113 : (.agg #[.int .i64 sn, .slice a1 u.length c1, .slice a2 p.length c2, .slice a3 B.length c3] : Value).cells.setIfInBounds 1 (.slice a97 (u.take 200).length c98) = (.agg #[.int .i64 sn, .slice a97 (u.take 200).length c98, .slice a2 p.length c2, .slice a3 B.length c3] : Value).cells := rfl
 rw [hE113] at S112
 refine T_nil ?_
 refine TT_step rfl ?_
 refine Fl 2 ?_
 refine T_nil ?_
 refine TT_step rfl ?_
 refine T_store1S 1 2 S112 (fun _ _ => trivial) rfl rfl rfl rfl rfl rfl rfl rfl rfl rfl rfl rfl (show 2 < 4 by decide) fun w114 S115 => ?_
 have hE116 : (.agg #[.int .i64 sn, .slice a97 (u.take 200).length c98, .slice a2 p.length c2, .slice a3 B.length c3] : Value).cells.setIfInBounds 2 (.slice a104 (p.take 6).length c105) = (.agg #[.int .i64 sn, .slice a97 (u.take 200).length c98, .slice a104 (p.take 6).length c105, .slice a3 B.length c3] : Value).cells := rfl
 rw [hE116] at S115
 refine T_nil ?_
 refine TT_done ?_
 refine Wr ?_
 refine Pv ?_
 refine T_nil ?_
 refine W_seq ?_
 refine Wr ?_
 refine Pv ?_
 refine T_nil ?_
 refine W_block ?_
 have S117 := S115.nilRow 24 1
 have rs118 := Rds.nil H
 refine W_loop (fun M ρ w' => ∃ (k : Nat) (a121 : Option Addr) (c122 : Nat) (hs124 : List Value) (G119 : Hp), M = 20 - k ∧ k ≤ 20 ∧ k ≤ B.length ∧ ρ = [(1, .pointer (some ⟨b1, 0, none⟩)), (2, .pointer (some ⟨b4, 0, none⟩)), (3, .slice a121 k c122), (4, .int .i64 (k : Int))] ∧ H.le G119 ∧ St w H G119 [.row 24 1 (.slice a121 k c122) k hs124, .blk b4 (.agg #[.int .i64 0, .slice none 0 0, .slice none 0 0, .slice none 0 0] : Value).cells 37, .blk b1 (.agg #[.int .i64 sn, .slice a97 (u.take 200).length c98, .slice a104 (p.take 6).length c105, .slice a3 B.length c3] : Value).cells 37] w' ∧ Rds G119 hs124 (Go.Au.cutN 80 B k) ∧ k ≤ c122)
  (20 - 0) [(1, .pointer (some ⟨b1, 0, none⟩)), (2, .pointer (some ⟨b4, 0, none⟩)), (3, .slice none 0 0), (4, .int .i64 ((0 : Nat) : Int))] ⟨rfl, rfl, rfl, (congrArg (fun z => some (Value.int .i64 z)) (by omega)), trivial⟩ ⟨0, none, 0, _, H, rfl, (by omega), (by omega), rfl, Hp.le.refl _, S117, rs118, (Nat.le_refl _)⟩ ?_
 rintro M ρ w126 ⟨k, a121, c122, hs124, G119, rfl, hp128, hp129, rfl, hl120, S127, rs125, hc123⟩
 refine W_seq ?_
 refine Wr ?_
 refine Pv ?_
 refine Fl 3 ?_
 refine T_loadS 2 3 S127 rfl rfl rfl rfl rfl rfl rfl rfl rfl rfl ?_
 iterate 3 refine Pv ?_
 refine T_part (t := 18) rfl (List.cons_ne_nil _ _) (fun h130' => ?_) (fun h130' => ?_)
 ·have h130 := of_decide_eq_true h130'
  iterate 2 (refine Ys ?_; refine Pv ?_)
  refine Pv ?_
  refine T_nil ?_
  refine W_cond_dec rfl (fun h131 => ?_) (fun h131 => ?_)
  ·refine W_skip ?_
   refine W_seq ?_
   refine W_block ?_
   refine W_region ?_
   refine Pv ?_
   refine Fl 3 ?_
   refine T_loadS 2 3 S127 rfl rfl rfl rfl rfl rfl rfl rfl rfl rfl ?_
   refine Pv ?_
   obtain ⟨hs135, r136, r137⟩ := (h3.mono hl120)
   refine T_idxR k r136 rfl rfl rfl rfl rfl rfl rfl rfl rfl (by omega) (by omega) fun b132 o133 hc134 => ?_
   obtain ⟨a140, c141, hc143, hv139, r142⟩ := r137.at k (by omega)
   have hc144 := hc134 0 (.slice a140 (B.getD k []).length c141) (by simpa using hv139)
   simp only [Nat.add_zero] at hc144
   refine T_loadG S127 hc144 rfl rfl rfl rfl rfl rfl rfl ?_
   refine T_callS rfl rfl g_aumbry_aumbrykeep_Cut_byte rfl rfl rfl rfl ((cutB_ok S127.le r142 80).mono ?_)
   rintro e w150 ⟨a145, c146, hc147, rfl, hr148, hB149⟩
   have S151 := S127.call hB149
   refine ⟨_, rfl, trivial, ?_⟩
   have rs156 : Rds G119 [.slice a145 ((B.getD k []).take 80).length c146] [((B.getD k []).take 80)] := Rds.cons (Rd.canonB hr148) (Rds.nil _)
   refine T_litS [.slice a145 ((B.getD k []).take 80).length c146] rfl rfl rfl rfl rfl rfl rfl rfl rfl rfl rfl rfl rfl (by simp [Value.cells]; rfl) rfl fun a152 w153 hB154 ho155 => ?_
   have S157 := S151.own hB154 ho155
   refine ⟨trivial, ?_⟩
   have hD158 : (Go.Au.cutN 80 B k ++ [((B.getD k []).take 80)]) = Go.Au.cutN 80 B (k + 1) := (Go.Au.cutN_snoc (by omega))
   refine T_appendS 1 (k + 1) _ S157 (fun _ _ => trivial) rfl rfl rfl rfl rfl rfl rfl rfl rfl rfl rfl rfl rfl rfl (S157.rd 0 rfl) rs156.one (by first | rfl | (simp; done) | (simp; omega) | omega) rfl (by unfold maxLen; omega) (by show _ * 24 ≤ _; omega) fun a159 c160 w161 hc162 S163 => ?_
   have rs164 := Rds.append rs125 rs156
   rw [hD158] at rs164
   refine Pv ?_
   refine T_nil ?_
   refine W_region ?_
   refine Pv ?_
   refine T_ari rfl rfl rfl rfl (by omega) ?_
   refine Pv ?_
   refine T_nil ?_
   have S165 := S163.drop 0
   exact ⟨20 - (k + 1), [(1, .pointer (some ⟨b1, 0, none⟩)), (2, .pointer (some ⟨b4, 0, none⟩)), (3, .slice a159 (k + 1) c160), (4, .int .i64 ((k + 1 : Nat) : Int))], by omega, ⟨rfl, rfl, rfl, (congrArg (fun z => some (Value.int .i64 z)) (by omega)), trivial⟩, k + 1, a159, c160, _, G119, rfl, (by omega), (by omega), rfl, hl120, S165, rs164, hc162⟩
  refine W_exit ?_
  refine Wr ?_
  refine Pv ?_
  refine Fl 3 ?_
  refine T_store1S 2 3 S127 (fun _ _ => trivial) rfl rfl rfl rfl rfl rfl rfl rfl rfl rfl rfl rfl (show 3 < 4 by decide) fun w166 S167 => ?_
  have hE168 : (.agg #[.int .i64 sn, .slice a97 (u.take 200).length c98, .slice a104 (p.take 6).length c105, .slice a3 B.length c3] : Value).cells.setIfInBounds 3 (.slice a121 k c122) = (.agg #[.int .i64 sn, .slice a97 (u.take 200).length c98, .slice a104 (p.take 6).length c105, .slice a121 k c122] : Value).cells := rfl
  rw [hE168] at S167
  refine T_nil ?_
  refine Wr ?_
  refine T_loadFS 2 S167 rfl rfl rfl rfl rfl rfl rfl rfl rfl (by first | rfl | simp [hVs, *]) ?_
  refine T_storeFS 1 S167 (fun _ _ => trivial) rfl rfl rfl rfl rfl rfl rfl rfl rfl (by first | rfl | simp [hVs, *]) (by first | rfl | simp [hVs, *]) (one_all rfl) fun w169 S170 => ?_
  refine T_nil ?_
  refine W_ret ?_
  refine ⟨_, ⟨_, _, _, rfl, rfl, run_loadVarA rfl rfl (by first | rfl | simp [hVs, *]) (S170.cells 1 rfl), rfl⟩, ?_⟩
  obtain ⟨G172, hl173, S171, r174⟩ := S170.stillRow 0 rfl
  have r175 := RdL.mk r174 (rs125.mono hl173)
  exact cs_end (Go.Au.cutN_full (by omega) (by omega) (by omega)) (((hr100.mono (hl120.trans hl173))).mono S171.fin) (((hr107.mono (hl120.trans hl173))).mono S171.fin) ((r175).mono S171.fin) S171.below
 have h130 := of_decide_eq_false h130'
 iterate 2 refine No ?_
 refine Pv ?_
 refine T_nil ?_
 refine W_cond_false rfl ?_
 refine W_exit ?_
 refine Wr ?_
 refine Pv ?_
 refine Fl 3 ?_
 refine T_store1S 2 3 S127 (fun _ _ => trivial) rfl rfl rfl rfl rfl rfl rfl rfl rfl rfl rfl rfl (show 3 < 4 by decide) fun w176 S177 => ?_
 have hE178 : (.agg #[.int .i64 sn, .slice a97 (u.take 200).length c98, .slice a104 (p.take 6).length c105, .slice a3 B.length c3] : Value).cells.setIfInBounds 3 (.slice a121 k c122) = (.agg #[.int .i64 sn, .slice a97 (u.take 200).length c98, .slice a104 (p.take 6).length c105, .slice a121 k c122] : Value).cells := rfl
 rw [hE178] at S177
 refine T_nil ?_
 refine Wr ?_
 refine T_loadFS 2 S177 rfl rfl rfl rfl rfl rfl rfl rfl rfl (by first | rfl | simp [hVs, *]) ?_
 refine T_storeFS 1 S177 (fun _ _ => trivial) rfl rfl rfl rfl rfl rfl rfl rfl rfl (by first | rfl | simp [hVs, *]) (by first | rfl | simp [hVs, *]) (one_all rfl) fun w179 S180 => ?_
 refine T_nil ?_
 refine W_ret ?_
 refine ⟨_, ⟨_, _, _, rfl, rfl, run_loadVarA rfl rfl (by first | rfl | simp [hVs, *]) (S180.cells 1 rfl), rfl⟩, ?_⟩
 obtain ⟨G182, hl183, S181, r184⟩ := S180.stillRow 0 rfl
 have r185 := RdL.mk r184 (rs125.mono hl183)
 exact cs_end (Go.Au.cutN_full (by omega) (by omega) (by omega)) (((hr100.mono (hl120.trans hl183))).mono S181.fin) (((hr107.mono (hl120.trans hl183))).mono S181.fin) ((r185).mono S181.fin) S181.below



end Go.Proofs.YtmjmjjkigblbgaaGreatDoor
