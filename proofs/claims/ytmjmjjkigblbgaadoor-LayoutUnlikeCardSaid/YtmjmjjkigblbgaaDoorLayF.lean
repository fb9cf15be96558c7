/- Shares: leaves, comparisons, the statement. -/
import Derived.Test.YtmjmjjkigblbgaaDoorLayE
set_option linter.unusedVariables false
set_option linter.unusedSimpArgs false
set_option maxRecDepth 8192
namespace Go.Proofs.YtmjmjjkigblbgaaDoor
open Go Go.F Go.RowKit
open Go.Au

theorem el_lt {l : List (List UInt8)} {n : Nat} (h : ∀ x ∈ l, x.length < n) {k : Nat} (hk : k < l.length) : (l.getD k []).length < n := by
 rw [List.getD_eq_getElem?_getD, List.getElem?_eq_getElem hk]; exact h _ (List.getElem_mem _)
theorem leavesH_all (B : List (List UInt8)) (k : Nat) : ∀ x ∈ leavesH B k, x.length = 32 := by
 intro x hx
 obtain ⟨y, _, rfl⟩ := List.mem_map.1 hx
 exact leafH_len _
theorem leavesR_ok {H : Hp} {w : World} (hH : H.le (hw w)) {B : List (List UInt8)} {aa0 : Option Addr} {nn0 cc0 : Nat} (hv : RdL H (.slice aa0 nn0 cc0) B) (hB : B.length ≤ 100) (hx : ∀ x ∈ B, x.length < 1000) :
  Calls Tryd.prog 68 #[.slice aa0 nn0 cc0] w fun e w' => ∃ a c, B.length ≤ c ∧ e = .returned (.slice a B.length c) ∧ rowZ w' w.heap.size 23 32 (.slice a B.length c) B.length (hcells (leavesH B B.length)) ∧ Below w.heap.size w w' := by
 obtain rfl : nn0 = B.length := hv.len
 refine enter1 _ Tryd.func68 rfl Tryd.ntmps68 Tryd.results68 rfl ?_
 have S0 := St.start w hH
 refine Wr (Pv (Nr ?_))
 refine Pv (T_nil (W_seq (Wr ?_)))
 iterate 3 refine Pv ?_
 refine T_nil (W_block ?_)
 have S1 := S0.nilRow 23 32
 refine W_loop (fun M ρ w' => ∃ (k : Nat) (a4 : Option Addr) (c5 : Nat) (G2 : Hp), M = B.length - k ∧ k ≤ B.length ∧ ρ = [(0, .slice aa0 B.length cc0), (3, .slice a4 k c5), (6, .int .i64 ((B.length : Nat) : Int)), (7, .int .i64 (k : Int))] ∧ H.le G2 ∧ St w H G2 [.row 23 32 (.slice a4 k c5) k (hcells (leavesH B k))] w' ∧ (∀ y ∈ leavesH B k, y.length = 32) ∧ k ≤ c5)
  (B.length - 0) [(0, .slice aa0 B.length cc0), (3, .slice none 0 0), (6, .int .i64 ((B.length : Nat) : Int)), (7, .int .i64 ((0 : Nat) : Int))] ⟨rfl, rfl, ciI, ciI, trivial⟩ ⟨0, none, 0, H, rfl, (by omega), rfl, Hp.le.refl _, S1, (fun _ h => by cases h), (Nat.le_refl _)⟩ ?_
 rintro M ρ w8 ⟨k, a4, c5, G2, rfl, hp10, rfl, hl3, S9, hh7, hc6⟩
 refine Wr (Pv (T_nil (W_seq ?_)))
 refine Aa (fun h11 => ?_) (fun h11 => ?_)
 ·refine W_skip (W_seq (W_block (Wr ?_)))
  iterate 2 refine Pv ?_
  refine T_nil (W_region ?_)
  iterate 3 refine Pv ?_
  obtain ⟨hs15, r16, r17⟩ := (hv.mono hl3)
  refine Ah k r16 fun b12 o13 hc14 => ?_
  obtain ⟨a20, c21, hc23, hv19, r22⟩ := r17.at k (by omega)
  have hc24 := hc14 0 (.slice a20 (B.getD k []).length c21) (by simpa using hv19)
  simp only [Nat.add_zero] at hc24
  refine Ac S9 hc24 ?_
  have hel := el_lt hx (k := k) (by omega)
  refine Cs g_aumbry_aumbryref07_Leaf ((leafR_ok S9.le r22 (by omega)).mono ?_)
  rintro e w26 ⟨rfl, hB25⟩
  have S27 := S9.call hB25
  refine ⟨_, rfl, trivial, ?_⟩
  refine T_litS (hcells [leafH (B.getD k [])]) rfl rfl rfl rfl rfl rfl rfl rfl rfl rfl rfl rfl rfl (one_h (leafH_len _)) (by simp [hcells, hV, Value.cells]) fun a28 w29 hB30 ho31 => ?_
  have S32 := S27.own hB30 ho31
  refine ⟨trivial, ?_⟩
  have hD33 : (leavesH B k ++ [leafH (B.getD k [])]) = leavesH B (k + 1) := (leavesH_snoc (by omega))
  refine Ag (h1 := by exact one_hcells _) (hn' := by first | rfl | (simp; done) | (simp; omega) | omega) (hx' := by rw [← hD33]; simp [hcells_append, hcells]) (hbytes := by show _ * 32 ≤ _; omega) 1 (k + 1) (hcells (leavesH B (k + 1))) S32 (S32.rd 0 rfl) fun a34 c35 w36 hc37 S38 => ?_
  have hh39 : ∀ y ∈ leavesH B (k + 1), y.length = 32 := by rw [← hD33]; exact (all_app hh7 (all_h1 (leafH_len _)))
  refine Pv (T_nil (W_region ?_))
  refine Ar ?_
  refine Pv (T_nil ?_)
  have S40 := S38.drop 0
  exact ⟨B.length - (k + 1), [(0, .slice aa0 B.length cc0), (3, .slice a34 (k + 1) c35), (6, .int .i64 ((B.length : Nat) : Int)), (7, .int .i64 ((k + 1 : Nat) : Int))], by omega, ⟨rfl, rfl, ciI, ciI, trivial⟩, k + 1, a34, c35, G2, rfl, (by omega), rfl, hl3, S40, hh39, hc37⟩
 refine W_exit (Wr ?_)
 iterate 2 refine Pv ?_
 refine T_nil (W_ret ?_)
 refine ⟨_, ⟨_, _, rfl, rfl, rfl⟩, ?_⟩
 obtain rfl : k = B.length := by omega
 exact ⟨_, _, hc6, rfl, S9.row 0 rfl, S9.below⟩


theorem shareLeafR_ok {H : Hp} {w : World} (hH : H.le (hw w)) (sn : Int) {u : List UInt8} {p B : List (List UInt8)} {a1 a2 a3 : Option Addr} {n1 n2 n3 c1 c2 c3 : Nat} (h1 : Rd H (.slice a1 n1 c1) n1 1 (u.map bV)) (h2 : RdH H (.slice a2 n2 c2) 32 p) (h3 : RdL H (.slice a3 n3 c3) B) (hB : B.length ≤ 100) (HX1 : ∀ x ∈ B, x.length < 1000) :
  Calls Tryd.prog 33 #[.agg #[.int .i64 sn, .slice a1 n1 c1, .slice a2 n2 c2, .slice a3 n3 c3]] w fun e w' => e = .returned (hV (Go.Au.root (leavesH B B.length))) ∧ Below w.heap.size w w' := by
 obtain rfl : n1 = u.length := h1.lenB
 obtain rfl : n2 = p.length := h2.len
 obtain rfl : n3 = B.length := h3.len
 have hll : (leavesH B B.length).length ≤ 100 := by rw [leavesH_len]; omega
 refine enter1 _ Tryd.func33 rfl Tryd.ntmps33 Tryd.results33 rfl ?_
 have S0 := St.start w hH
 refine Wr (T_boxS S0 (fun _ _ => trivial) rfl rfl rfl rfl rfl rfl fun b1 w2 S3 => (Ae S3 fun b4 w5 S6 => (Nr ?_)))
 refine Fl 3 ?_
 refine Ak 1 3 S6 ?_
 refine Cs g_aumbry_aumbryref13_leaves ((leavesR_ok S6.le h3 (by omega) HX1).mono ?_)
 rintro e w12 ⟨a7, c8, hc9, rfl, ho10, hB11⟩
 have S13 := S6.own hB11 ho10
 refine ⟨_, rfl, trivial, ?_⟩
 obtain ⟨G15, hl16, S14, r17⟩ := S13.stillRow 0 rfl
 have r18 := RdH.mk (leavesH_all _ _) (by decide) r17
 refine Cs g_aumbry_aumbryref07_Root ((rootR_ok S14.le r18 (by omega)).mono ?_)
 rintro e w20 ⟨rfl, hB19⟩
 have S21 := S14.call hB19
 refine ⟨_, rfl, trivial, ?_⟩
 refine T_storeFS 0 S21 (fun _ _ => trivial) rfl rfl rfl rfl rfl rfl rfl rfl rfl (hVs (root_len r18.1)) (hVs (root_len r18.1)) (one_hA _) fun w22 S23 => (T_nil (W_ret ?_))
 refine ⟨_, ⟨_, _, _, rfl, rfl, run_loadVarA rfl rfl (hVs (root_len r18.1)) (S23.cells 0 rfl), rfl⟩, ?_⟩
 exact ⟨rfl, S23.below⟩


theorem rowsB_ok {H : Hp} {w : World} (hH : H.le (hw w)) {l : List (List UInt8)} {aa0 : Option Addr} {nn0 cc0 : Nat} (hv : RdL H (.slice aa0 nn0 cc0) l) {m : List (List UInt8)} {aa1 : Option Addr} {nn1 cc1 : Nat} (hu : RdL H (.slice aa1 nn1 cc1) m) (hb : l.length ≤ 100000) (hs : ∀ x ∈ l, x.length ≤ 100000) :
  Calls Tryd.prog 58 #[.slice aa0 nn0 cc0, .slice aa1 nn1 cc1] w fun e w' => e = .returned (.bool (decide (l = m))) ∧ Below w.heap.size w w' := by
 obtain rfl : nn0 = l.length := hv.len
 obtain rfl : nn1 = m.length := hu.len
 refine enter2 _ Tryd.func58 rfl Tryd.ntmps58 Tryd.results58 rfl ?_
 have S0 := St.start w hH
 refine Wr (Pv (T_nil (W_seq (Wr ?_))))
 iterate 5 refine Pv ?_
 refine T_nil (W_cond_not rfl (fun h1 => ?_) (fun h1 => ?_))
 ·refine Wr (Pv (T_nil (W_ret ?_)))
  refine ⟨_, ⟨_, _, rfl, rfl, rfl⟩, ?_⟩
  exact ⟨congrArg (fun z => Ending.returned (Value.bool z)) (decide_eq_false (fun e => h1 (by rw [e]))).symm, S0.below⟩
 refine W_skip (W_seq (Wr (Pv (T_nil (W_block ?_)))))
 refine W_loop (fun M ρ w' => ∃ (k : Nat) (G2 : Hp), M = l.length - k ∧ k ≤ l.length ∧ l.take k = m.take k ∧ ρ = [(0, .slice aa0 l.length cc0), (1, .slice aa1 m.length cc1), (5, .int .i64 (k : Int))] ∧ H.le G2 ∧ St w H G2 [] w')
  (l.length - 0) [(0, .slice aa0 l.length cc0), (1, .slice aa1 m.length cc1), (5, .int .i64 ((0 : Nat) : Int))] ⟨rfl, rfl, ciI, trivial⟩ ⟨0, H, rfl, (by omega), (by simp), rfl, Hp.le.refl _, S0⟩ ?_
 rintro M ρ w4 ⟨k, G2, rfl, hp6, hq, rfl, hl3, S5⟩
 refine W_seq (Wr ?_)
 iterate 4 refine Pv ?_
 refine T_nil (Aa (fun h8 => ?_) (fun h8 => ?_))
 ·refine W_skip (W_seq (W_block (W_seq (W_draw rfl (by kernel_rfl) ?_))))
  have S9 := S5.drew
  have hlk := el_le1 hs (k := k) (by omega)
  iterate 2 refine Pv ?_
  obtain ⟨hs13, r14, r15⟩ := (hv.mono hl3)
  refine Ah k r14 fun b10 o11 hc12 => ?_
  obtain ⟨a18, c19, hc21, hv17, r20⟩ := r15.at k (by omega)
  have hc22 := hc12 0 (.slice a18 (l.getD k []).length c19) (by simpa using hv17)
  simp only [Nat.add_zero] at hc22
  refine Ac S9 hc22 ?_
  iterate 2 refine Pv ?_
  obtain ⟨hs26, r27, r28⟩ := (hu.mono hl3)
  refine Ah k r27 fun b23 o24 hc25 => ?_
  obtain ⟨a31, c32, hc34, hv30, r33⟩ := r28.at k (by omega)
  have hc35 := hc25 0 (.slice a31 (m.getD k []).length c32) (by simpa using hv30)
  simp only [Nat.add_zero] at hc35
  refine Ac S9 hc35 ?_
  refine T_callS rfl rfl g_aumbry_aumbrykeep_Same_byte rfl rfl rfl rfl ((sameB_ok S9.le r20 r33 (by first | omega | (simp; done) | (simp only [List.length_take, List.length_drop]; omega))).mono ?_)
  rintro e w37 ⟨rfl, hB36⟩
  have S38 := S9.call hB36
  refine ⟨_, rfl, trivial, ?_⟩
  refine Pv (T_nil ?_)
  refine W_cond_not rfl (fun h39 => ?_) (fun h39 => ?_)
  ·refine Wr (Pv (T_nil (W_ret ?_)))
   refine ⟨_, ⟨_, _, rfl, rfl, rfl⟩, ?_⟩
   exact ⟨congrArg (fun z => Ending.returned (Value.bool z)) (decide_eq_false (getD_ne (d := []) h39)).symm, S38.below⟩
  refine W_skip (W_region (Pv ?_))
  refine Ar ?_
  refine Pv (T_nil ?_)
  have HEQ : l.getD k [] = m.getD k [] := by exact h39
  exact ⟨l.length - (k + 1), [(0, .slice aa0 l.length cc0), (1, .slice aa1 m.length cc1), (5, .int .i64 ((k + 1 : Nat) : Int))], by omega, ⟨rfl, rfl, ciI, trivial⟩, k + 1, G2, rfl, (by omega), (by exact take_ext (d := []) (by omega) (by omega) hq HEQ), rfl, hl3, S38⟩
 refine W_exit (Wr (Pv (T_nil (W_ret ?_))))
 refine ⟨_, ⟨_, _, rfl, rfl, rfl⟩, ?_⟩
 have hk : k = l.length := by omega
 have heq : l = m := by rw [hk, List.take_length, List.take_of_length_le (by omega)] at hq; exact hq
 exact ⟨congrArg (fun z => Ending.returned (Value.bool z)) (decide_eq_true heq).symm, S5.below⟩


theorem shareEq_ok {H : Hp} {w : World} (hH : H.le (hw w)) (sn : Int) {u : List UInt8} {p B : List (List UInt8)} {a1 a2 a3 : Option Addr} {n1 n2 n3 c1 c2 c3 : Nat} (h1 : Rd H (.slice a1 n1 c1) n1 1 (u.map bV)) (h2 : RdH H (.slice a2 n2 c2) 32 p) (h3 : RdL H (.slice a3 n3 c3) B) (sm : Int) {v : List UInt8} {q C : List (List UInt8)} {a4 a5 a6 : Option Addr} {n4 n5 n6 c4 c5 c6 : Nat} (h4 : Rd H (.slice a4 n4 c4) n4 1 (v.map bV)) (h5 : RdH H (.slice a5 n5 c5) 32 q) (h6 : RdL H (.slice a6 n6 c6) C) (hu : u.length ≤ 100000) (hp : p.length ≤ 100000) (HRL : B.length ≤ 100000) (HRX : ∀ x ∈ B, x.length ≤ 100000) :
  Calls Tryd.prog 22 #[.agg #[.int .i64 sn, .slice a1 n1 c1, .slice a2 n2 c2, .slice a3 n3 c3], .agg #[.int .i64 sm, .slice a4 n4 c4, .slice a5 n5 c5, .slice a6 n6 c6]] w fun e w' => e = .returned (.bool (decide (sn = sm ∧ u = v ∧ p = q ∧ B = C))) ∧ Below w.heap.size w w' := by
 obtain rfl : n1 = u.length := h1.lenB
 obtain rfl : n2 = p.length := h2.len
 obtain rfl : n3 = B.length := h3.len
 obtain rfl : n4 = v.length := h4.lenB
 obtain rfl : n5 = q.length := h5.len
 obtain rfl : n6 = C.length := h6.len
 refine enter2 _ Tryd.func22 rfl Tryd.ntmps22 Tryd.results22 rfl ?_
 have S0 := St.start w hH
 refine Wr (T_boxS S0 (fun _ _ => trivial) rfl rfl rfl rfl rfl rfl fun b1 w2 S3 => (T_boxS S3 (fun _ _ => trivial) rfl rfl rfl rfl rfl rfl fun b4 w5 S6 => (Pv (Nr ?_))))
 refine Fl 0 ?_
 refine Ak 1 0 S6 ?_
 refine Fl 0 ?_
 refine Ak 0 0 S6 ?_
 iterate 2 refine Pv ?_
 refine Tp 10 (fun h7' => ?_) (fun h7' => ?_)
 ·have h7 := of_decide_eq_true h7'
  refine Ys ?_
  refine Fl 1 ?_
  refine Ys ?_
  refine Ak 1 1 S6 ?_
  refine Ys ?_
  refine Fl 1 ?_
  refine Ys ?_
  refine Ak 0 1 S6 ?_
  refine Ys ?_
  refine T_callS rfl rfl g_aumbry_aumbrykeep_Same_byte rfl rfl rfl rfl ((sameB_ok S6.le h1 h4 (by first | omega | (simp; done) | (simp only [List.length_take, List.length_drop]; omega))).mono ?_)
  rintro e w9 ⟨rfl, hB8⟩
  have S10 := S6.call hB8
  refine ⟨_, rfl, trivial, ?_⟩
  iterate 2 refine Pv ?_
  refine Tp 17 (fun h11' => ?_) (fun h11' => ?_)
  ·have h11 := of_decide_eq_true h11'
   refine Ys ?_
   refine Fl 2 ?_
   refine Ys ?_
   refine Ak 1 2 S10 ?_
   refine Ys ?_
   refine Fl 2 ?_
   refine Ys ?_
   refine Ak 0 2 S10 ?_
   refine Ys ?_
   refine T_callS rfl rfl g_aumbry_aumbrykeep_Same_aumbry_api_Hash rfl rfl rfl rfl ((sameH_ok S10.le h2 h5 (by first | omega | (simp; done) | (simp only [List.length_take, List.length_drop]; omega))).mono ?_)
   rintro e w13 ⟨rfl, hB12⟩
   have S14 := S10.call hB12
   refine ⟨_, rfl, trivial, ?_⟩
   iterate 2 refine Pv ?_
   refine Tp 24 (fun h15' => ?_) (fun h15' => ?_)
   ·have h15 := of_decide_eq_true h15'
    refine Ys ?_
    refine Fl 3 ?_
    refine Ys ?_
    refine Ak 1 3 S14 ?_
    refine Ys ?_
    refine Fl 3 ?_
    refine Ys ?_
    refine Ak 0 3 S14 ?_
    refine Ys ?_
    refine Cs g_aumbry_aumbrykeep_Rows_byte ((rowsB_ok S14.le h3 h6 HRL HRX).mono ?_)
    rintro e w17 ⟨rfl, hB16⟩
    have S18 := S14.call hB16
    refine ⟨_, rfl, trivial, ?_⟩
    iterate 2 refine Pv ?_
    refine T_nil (W_ret ?_)
    refine ⟨_, ⟨_, _, rfl, rfl, rfl⟩, ?_⟩
    exact ⟨congrArg (fun z => Ending.returned (Value.bool z)) (decide_eq_decide.2 ⟨fun e => ⟨h7, h11, h15, e⟩, fun e => e.2.2.2⟩), S18.below⟩
   have h15 := of_decide_eq_false h15'
   iterate 5 refine No ?_
   iterate 2 refine Pv ?_
   refine T_nil (W_ret ?_)
   refine ⟨_, ⟨_, _, rfl, rfl, rfl⟩, ?_⟩
   exact ⟨congrArg (fun z => Ending.returned (Value.bool z)) (decide_eq_false (fun e => by obtain ⟨e0, e1, e2, e3⟩ := e; first | exact h15 e0 | exact h15 e1 | exact h15 e2)).symm, S14.below⟩
  have h11 := of_decide_eq_false h11'
  iterate 5 refine No ?_
  iterate 2 refine Pv ?_
  iterate 5 refine No ?_
  iterate 2 refine Pv ?_
  refine T_nil (W_ret ?_)
  refine ⟨_, ⟨_, _, rfl, rfl, rfl⟩, ?_⟩
  exact ⟨congrArg (fun z => Ending.returned (Value.bool z)) (decide_eq_false (fun e => by obtain ⟨e0, e1, e2, e3⟩ := e; first | exact h11 e0 | exact h11 e1 | exact h11 e2)).symm, S10.below⟩
 have h7 := of_decide_eq_false h7'
 iterate 5 refine No ?_
 iterate 2 refine Pv ?_
 iterate 5 refine No ?_
 iterate 2 refine Pv ?_
 iterate 5 refine No ?_
 iterate 2 refine Pv ?_
 refine T_nil (W_ret ?_)
 refine ⟨_, ⟨_, _, rfl, rfl, rfl⟩, ?_⟩
 exact ⟨congrArg (fun z => Ending.returned (Value.bool z)) (decide_eq_false (fun e => by obtain ⟨e0, e1, e2, e3⟩ := e; first | exact h7 e0 | exact h7 e1 | exact h7 e2)).symm, S6.below⟩


end Go.Proofs.YtmjmjjkigblbgaaDoor
