/- Ways: the program's and the document's. -/
import Derived.Test.YtmjmjjkigblbgaaGreatDoorTreeC
set_option linter.unusedVariables false
set_option linter.unusedSimpArgs false
set_option maxRecDepth 8192
namespace Go.Proofs.YtmjmjjkigblbgaaGreatDoor
open Go Go.F Go.RowKit
open Go.Au

theorem pow_bd {k : Nat} (h : k ≤ 41) : 2 ^ k ≤ 2199023255552 := (show 2 ^ k ≤ 2 ^ 41 from Nat.pow_le_pow_right (by omega) h)
theorem pow_gt {m k : Nat} (h : 1 < 2 ^ (m - k)) : k < m := by
 rcases Nat.lt_or_ge k m with h1 | h1
 ·exact h1
 ·rw [show m - k = 0 by omega] at h; simp at h
theorem pow_done {m k : Nat} (h : k ≤ m) (h1 : ¬ 1 < 2 ^ (m - k)) : k = m := by
 rcases Nat.lt_or_ge k m with h2 | h2
 ·rw [show m - k = (m - k - 1) + 1 by omega, Nat.pow_succ] at h1
  have := Nat.pow_pos (n := m - k - 1) (show 0 < 2 by omega)
  omega
 ·omega
theorem pow_half {m k : Nat} (h : k < m) : ((2 ^ (m - k) : Nat) : Int) / 2 = ((2 ^ (m - (k + 1)) : Nat) : Int) := by
 have e : 2 ^ (m - k) = 2 ^ (m - (k + 1)) * 2 := by rw [← Nat.pow_succ]; congr 1; omega
 rw [e]; generalize 2 ^ (m - (k + 1)) = x; omega
theorem pow_lt_pad {n q : Nat} (h : 2 ^ q < padN n) : q < lg n := by
 rcases Nat.lt_or_ge q (lg n) with h1 | h1
 ·exact h1
 ·have h2 : 2 ^ lg n ≤ 2 ^ q := Nat.pow_le_pow_right (by omega) h1
  unfold padN at h; omega
theorem pow_lg {n q : Nat} (h : q ≤ lg n) (h1 : ¬ 2 ^ q < padN n) : q = lg n := by
 rcases Nat.lt_or_ge q (lg n) with h2 | h2
 ·exact absurd (Nat.pow_lt_pow_right (by omega) h2) h1
 ·omega
theorem shl1 {k : Nat} (h : k < 62) : IntKind.i64.wrap ((1 : Int) * 2 ^ (min ((k : Nat) : Int).toNat IntKind.i64.bits)) = ((2 ^ k : Nat) : Int) := by
 have e : min ((k : Nat) : Int).toNat IntKind.i64.bits = k := by show min k 64 = k; omega
 have hp : 2 ^ k ≤ 2305843009213693952 := (show 2 ^ k ≤ 2 ^ 61 from Nat.pow_le_pow_right (by omega) (by omega))
 have hc : (2 : Int) ^ k = ((2 ^ k : Nat) : Int) := (Int.natCast_pow 2 k).symm
 rw [e, Int.one_mul, hc]
 generalize 2 ^ k = x at *
 exact wrap64_id (by omega) (by omega)
theorem onW_odd {i : Nat} {x q : List UInt8} (h : i % 2 = 1) : onW i x q = q ++ x := if_pos h
theorem onW_even {i : Nat} {x q : List UInt8} (h : ¬ i % 2 = 1) : onW i x q = x ++ q := if_neg h
theorem wnode {i : Nat} {c q d : List UInt8} (h : onW i c q = d) (hl : d.length = 64) : Go.Au.node (d.take 32) ((d.drop 32).take 32) = nodeP (onW i c q) := by
 subst h; unfold nodeP
 rw [List.take_of_length_le (l := List.drop 32 _) (by rw [List.length_drop]; omega)]
theorem climb_even {i k : Nat} {x : List UInt8} {p : List (List UInt8)} (h : ¬ i / 2 ^ k % 2 = 1) (hc : (climb i x p k).length = 32) : Go.Au.node (climb i x p k) (p.getD k []) = climb i x p (k + 1) := by
 rw [climb, onW_even h, nodeP_app hc]
theorem climb_odd {i k : Nat} {x : List UInt8} {p : List (List UInt8)} (h : i / 2 ^ k % 2 = 1) (hc : (p.getD k []).length = 32) : Go.Au.node (p.getD k []) (climb i x p k) = climb i x p (k + 1) := by
 rw [climb, onW_odd h, nodeP_app hc]
theorem way_end {W w : World} {H : Hp} {D : List (List UInt8)} {et : TypeId} {k c : Nat} {a : Option Addr} {hv bv : Value} (hl : D.length = k) (hc : k ≤ c) (ho : rowZ w W.heap.size et 64 (.slice a k c) k (hcells D)) (hall : ∀ h ∈ D, h.length = 64) (hB : Below W.heap.size W w) :
  ∃ a' c', D.length ≤ c' ∧ Ending.returned (.tuple #[.slice a k c, hv, bv]) = .returned (.tuple #[.slice a' D.length c', hv, bv]) ∧ RdH (F.ext H W.heap.size w) (.slice a' D.length c') 64 D ∧ Below W.heap.size W w := by
 subst hl; exact ⟨a, c, hc, rfl, ⟨hall, Rd.of_own_ext ho⟩, hB⟩
theorem high_ok {H : Hp} {w : World} (hH : H.le (hw w)) (n : Int) (hn : n ≤ 2199023255552) :
  Calls Tryz.prog 148 #[.int .i64 n] w fun e w' => e = .returned (.int .i64 ((lg n.toNat : Nat) : Int)) ∧ Below w.heap.size w w' := by
 have hlg := lg_le (n := n.toNat) (m := 41) (by show _ ≤ 2199023255552; omega)
 have hp0 : padN n.toNat = 2 ^ ((lg n.toNat) - 0) := rfl
 refine enter1 _ Tryz.func148 rfl Tryz.ntmps148 Tryz.results148 rfl ?_
 have S0 := St.start w hH
 refine Wr (Pv (Nr ?_))
 refine Pv (T_nil (W_seq (Wr ?_)))
 refine Pv ?_
 refine Cs g_aumbry_tree_Pad ((pad_ok S0.le n (by omega)).mono ?_)
 rintro e w2 ⟨rfl, hB1⟩
 have S3 := S0.call hB1
 refine ⟨_, rfl, trivial, ?_⟩
 refine Pv (T_nil (W_block ?_))
 refine W_loop (fun M ρ w' => ∃ (k : Nat) (G4 : Hp), M = (lg n.toNat) - k ∧ k ≤ (lg n.toNat) ∧ ρ = [(3, .int .i64 (k : Int)), (4, .int .i64 ((2 ^ ((lg n.toNat) - k) : Nat) : Int))] ∧ H.le G4 ∧ St w H G4 [] w')
  ((lg n.toNat) - 0) [(3, .int .i64 ((0 : Nat) : Int)), (4, .int .i64 ((2 ^ ((lg n.toNat) - 0) : Nat) : Int))] ⟨ciI, ciI, trivial⟩ ⟨0, H, rfl, (by exact Nat.zero_le _), rfl, Hp.le.refl _, S3⟩ ?_
 rintro M ρ w6 ⟨k, G4, rfl, hp8, rfl, hl5, S7⟩
 have hpb := pow_bd (k := (lg n.toNat) - k) (by omega)
 refine W_seq (Wr ?_)
 iterate 2 refine Pv ?_
 refine T_nil (Aa (fun h9 => ?_) (fun h9 => ?_))
 ·refine W_skip (W_seq (W_block (W_region ?_)))
  have hk := pow_gt (m := (lg n.toNat)) (k := k) (by omega)
  refine Pv ?_
  refine Ar ?_
  refine Pv (T_nil (W_region ?_))
  refine Pv ?_
  refine T_quo rfl rfl rfl rfl rfl rfl (by omega) ?_
  refine T_re (v' := .int .i64 ((2 ^ ((lg n.toNat) - (k + 1)) : Nat) : Int)) (congrArg (Value.int .i64) (pow_half hk)) (Pv (T_nil ?_))
  exact ⟨(lg n.toNat) - (k + 1), [(3, .int .i64 ((k + 1 : Nat) : Int)), (4, .int .i64 ((2 ^ ((lg n.toNat) - (k + 1)) : Nat) : Int))], by omega, ⟨ciI, ciI, trivial⟩, k + 1, G4, rfl, (by omega), rfl, hl5, S7⟩
 refine W_exit (Wr ?_)
 iterate 2 refine Pv ?_
 refine T_nil (W_ret ?_)
 refine ⟨_, ⟨_, _, rfl, rfl, rfl⟩, ?_⟩
 have hk : k = (lg n.toNat) := pow_done (by assumption) (by omega)
 exact ⟨by rw [hk]; rfl, S7.below⟩


theorem way_ok {H : Hp} {w : World} (hH : H.le (hw w)) (hT : Tabs H) (n i : Int) {x : List UInt8} (hx : x.length = 32) {p : List (List UInt8)} {aa3 : Option Addr} {nn3 cc3 : Nat} (hp : RdH H (.slice aa3 nn3 cc3) 32 p) :
  Calls Tryz.prog 110 #[.int .i64 n, .int .i64 i, hV x, .slice aa3 nn3 cc3] w fun e w' => ∃ a c, (waysH n i x p).length ≤ c ∧ e = .returned (.tuple #[.slice a (waysH n i x p).length c, hV (climbH n i x p), .bool (okW n i p.length)]) ∧ RdH (F.ext H w.heap.size w') (.slice a (waysH n i x p).length c) 64 (waysH n i x p) ∧ Below w.heap.size w w' := by
 obtain rfl : nn3 = p.length := hp.len
 have hpcap : p.length ≤ cc3 := hp.2.capOf
 refine enter4 _ Tryz.func110 rfl Tryz.ntmps110 Tryz.results110 rfl ?_
 have S0 := St.start w hH
 refine Wr (Al S0 fun b1 w2 S3 => ?_)
 refine Pv ?_
 refine Ad S3 fun b4 w5 S6 => ?_
 refine Pv (T_nil (W_seq (Wr ?_)))
 iterate 3 refine Pv ?_
 refine Tp 17 (fun h7' => ?_) (fun h7' => ?_)
 ·have h7 := of_decide_eq_true h7'
  iterate 3 refine No ?_
  iterate 2 (refine Pv ?_; refine Pv ?_; refine No ?_; refine No ?_)
  iterate 3 refine No ?_
  refine Pv (T_nil ?_)
  refine W_cond_true rfl (Wr (T_buildA (cells := (hV (List.replicate 32 0)).cells) rfl rfl rfl rfl rfl rfl rfl rfl rfl rfl (Pv ?_)))
  refine Ah (hl := by exact hVs List.length_replicate) (hl2 := by exact hVs List.length_replicate) (h1 := by exact one_hA _) 0 S6 fun w8 S9 => ?_
  refine Pv (T_nil (W_ret ?_))
  refine ⟨_, ⟨_, _, rfl, rfl, ⟨_, _, _, rfl, rfl, run_loadVarA rfl rfl (hVs List.length_replicate) (S9.cells 0 rfl), ⟨_, _, rfl, rfl, rfl⟩⟩⟩, ?_⟩
  have hno : okW n i p.length = false := okW_no (by omega)
  rw [waysH_no hno, climbH_no hno, hno]
  exact ⟨none, 0, Nat.le_refl _, rfl, ⟨fun _ h => (by cases h), Rd.nil _ 64⟩, S9.below⟩
 have h7 := of_decide_eq_false h7'
 iterate 3 (refine Ys ?_; refine Pv ?_)
 iterate 2 refine Pv ?_
 refine Tp 22 (fun h10' => ?_) (fun h10' => ?_)
 ·have h10 := of_decide_eq_true h10'
  iterate 2 refine No ?_
  iterate 2 refine Pv ?_
  iterate 5 refine No ?_
  refine Pv (T_nil ?_)
  refine W_cond_true rfl (Wr (T_buildA (cells := (hV (List.replicate 32 0)).cells) rfl rfl rfl rfl rfl rfl rfl rfl rfl rfl (Pv ?_)))
  refine Ah (hl := by exact hVs List.length_replicate) (hl2 := by exact hVs List.length_replicate) (h1 := by exact one_hA _) 0 S6 fun w11 S12 => ?_
  refine Pv (T_nil (W_ret ?_))
  refine ⟨_, ⟨_, _, rfl, rfl, ⟨_, _, _, rfl, rfl, run_loadVarA rfl rfl (hVs List.length_replicate) (S12.cells 0 rfl), ⟨_, _, rfl, rfl, rfl⟩⟩⟩, ?_⟩
  have hno : okW n i p.length = false := okW_no (by omega)
  rw [waysH_no hno, climbH_no hno, hno]
  exact ⟨none, 0, Nat.le_refl _, rfl, ⟨fun _ h => (by cases h), Rd.nil _ 64⟩, S12.below⟩
 have h10 := of_decide_eq_false h10'
 iterate 2 (refine Ys ?_; refine Pv ?_)
 iterate 2 refine Pv ?_
 refine Tp 26 (fun h13' => ?_) (fun h13' => ?_)
 ·have h13 := of_decide_eq_true h13'
  iterate 5 refine No ?_
  refine Pv (T_nil ?_)
  refine W_cond_true rfl (Wr (T_buildA (cells := (hV (List.replicate 32 0)).cells) rfl rfl rfl rfl rfl rfl rfl rfl rfl rfl (Pv ?_)))
  refine Ah (hl := by exact hVs List.length_replicate) (hl2 := by exact hVs List.length_replicate) (h1 := by exact one_hA _) 0 S6 fun w14 S15 => ?_
  refine Pv (T_nil (W_ret ?_))
  refine ⟨_, ⟨_, _, rfl, rfl, ⟨_, _, _, rfl, rfl, run_loadVarA rfl rfl (hVs List.length_replicate) (S15.cells 0 rfl), ⟨_, _, rfl, rfl, rfl⟩⟩⟩, ?_⟩
  have hno : okW n i p.length = false := okW_no (by omega)
  rw [waysH_no hno, climbH_no hno, hno]
  exact ⟨none, 0, Nat.le_refl _, rfl, ⟨fun _ h => (by cases h), Rd.nil _ 64⟩, S15.below⟩
 have h13 := of_decide_eq_false h13'
 iterate 3 (refine Ys ?_; refine Pv ?_)
 refine Ys ?_
 refine Cs g_aumbry_tree_high ((high_ok S6.le n (by omega)).mono ?_)
 rintro e w17 ⟨rfl, hB16⟩
 have S18 := S6.call hB16
 refine ⟨_, rfl, trivial, ?_⟩
 refine Ys ?_
 iterate 2 refine Pv ?_
 refine T_nil (W_cond_not rfl (fun h19 => ?_) (fun h19 => ?_))
 ·refine Wr (T_buildA (cells := (hV (List.replicate 32 0)).cells) rfl rfl rfl rfl rfl rfl rfl rfl rfl rfl (Pv ?_))
  refine Ah (hl := by exact hVs List.length_replicate) (hl2 := by exact hVs List.length_replicate) (h1 := by exact one_hA _) 0 S18 fun w20 S21 => ?_
  refine Pv (T_nil (W_ret ?_))
  refine ⟨_, ⟨_, _, rfl, rfl, ⟨_, _, _, rfl, rfl, run_loadVarA rfl rfl (hVs List.length_replicate) (S21.cells 0 rfl), ⟨_, _, rfl, rfl, rfl⟩⟩⟩, ?_⟩
  have hno : okW n i p.length = false := okW_no (by omega)
  rw [waysH_no hno, climbH_no hno, hno]
  exact ⟨none, 0, Nat.le_refl _, rfl, ⟨fun _ h => (by cases h), Rd.nil _ 64⟩, S21.below⟩
 refine W_skip (Wr (Pv (T_nil (W_seq (Wr ?_)))))
 iterate 3 refine Pv ?_
 refine T_nil (W_block ?_)
 have hlg := lg_le (n := n.toNat) (m := 8) (by omega)
 have S22 := S18.nilRow 171 64
 refine W_loop (fun M ρ w' => ∃ (k : Nat) (a25 : Option Addr) (c26 : Nat) (G23 : Hp), M = p.length - k ∧ k ≤ p.length ∧ ρ = [(1, .int .i64 ((i.toNat / 2 ^ k : Nat) : Int)), (6, .pointer (some ⟨b1, 0, none⟩)), (9, .pointer (some ⟨b4, 0, none⟩)), (11, .slice a25 k c26), (34, .slice aa3 p.length cc3), (35, .int .i64 ((p.length : Nat) : Int)), (36, .int .i64 (k : Int))] ∧ H.le G23 ∧ St w H G23 [.row 171 64 (.slice a25 k c26) k (hcells (Go.Au.ways i.toNat x p k)), .blk b4 (hV (List.replicate 32 0) : Value).cells 27, .blk b1 (hV (climb i.toNat x p k) : Value).cells 27] w' ∧ (∀ y ∈ Go.Au.ways i.toNat x p k, y.length = 64) ∧ k ≤ c26)
  (p.length - 0) [(1, .int .i64 ((i.toNat / 2 ^ 0 : Nat) : Int)), (6, .pointer (some ⟨b1, 0, none⟩)), (9, .pointer (some ⟨b4, 0, none⟩)), (11, .slice none 0 0), (34, .slice aa3 p.length cc3), (35, .int .i64 ((p.length : Nat) : Int)), (36, .int .i64 ((0 : Nat) : Int))] ⟨ciI, rfl, rfl, rfl, rfl, ciI, ciI, trivial⟩ ⟨0, none, 0, H, rfl, (by omega), rfl, Hp.le.refl _, S22, (fun _ h => by cases h), (Nat.le_refl _)⟩ ?_
 rintro M ρ w29 ⟨k, a25, c26, G23, rfl, hp31, rfl, hl24, S30, hh28, hc27⟩
 refine Wr (Pv (T_nil (W_seq ?_)))
 refine Aa (fun h32 => ?_) (fun h32 => ?_)
 ·refine W_skip (W_seq (W_block (Wr ?_)))
  have hnn := Int.natCast_nonneg (i.toNat / 2 ^ k)
  have hdl := Nat.div_le_self i.toNat (2 ^ k)
  refine Ag k (hp.mono hl24).2 fun b33 o34 hc35 => ?_
  have hc36 := cells_h (hp.mono hl24).1 k (by omega) hc35
  have hl37 := len_h (hp.mono hl24).1 k (by omega)
  refine T_loadGA _ S30 hc36 rfl rfl rfl rfl rfl rfl rfl rfl (hVs hl37) (Ad S30 fun b38 w39 S40 => ?_)
  refine Ah (hl := by exact hVs hl37) (hl2 := by exact hVs hl37) (h1 := by exact one_hA _) 0 S40 fun w41 S42 => (Nr ?_)
  refine Ak (hl := by exact hVs (climb_len _ hx _ _)) 3 S42 ?_
  refine Ak (hl := by exact hVs hl37) 0 S42 ?_
  have hl43 : ((climb i.toNat x p k) ++ (p.getD k [])).length = 64 := by rw [List.length_append, (climb_len _ hx _ _), hl37]
  refine T_buildA (cells := (hV ((climb i.toNat x p k) ++ (p.getD k []))).cells) rfl rfl rfl rfl rfl rfl (fill2 (by decide) rfl rfl (climb_len _ hx _ _) hl37) rfl rfl rfl ?_
  refine Ad S42 fun b44 w45 S46 => ?_
  refine Ah (hl := by exact hVs hl43) (hl2 := by exact hVs hl43) (h1 := by exact one_hA _) 0 S46 fun w47 S48 => (T_nil (W_seq (Wr ?_)))
  refine Pv ?_
  refine T_rem rfl rfl rfl rfl rfl rfl (by omega) ?_
  refine Pv (T_nil ?_)
  refine Aa (fun h49 => ?_) (fun h49 => ?_)
  ·refine W_region (Ak (hl := by exact hVs hl37) 1 S48 ?_)
   refine Ak (hl := by exact hVs (climb_len _ hx _ _)) 4 S48 ?_
   have hl50 : ((p.getD k []) ++ (climb i.toNat x p k)).length = 64 := by rw [List.length_append, hl37, (climb_len _ hx _ _)]
   refine T_buildA (cells := (hV ((p.getD k []) ++ (climb i.toNat x p k))).cells) rfl rfl rfl rfl rfl rfl (fill2 (by decide) rfl rfl hl37 (climb_len _ hx _ _)) rfl rfl rfl ?_
   refine Ah (hl := by exact hVs hl50) (hl2 := by exact (hVs hl50).trans (hVs hl43).symm) (h1 := by exact one_hA _) 0 S48 fun w51 S52 => (Nr ?_)
   refine Pv ?_
   refine Ak (hl := by exact hVs hl50) 0 S52 ?_
   refine T_re (v' := hV (onW (i.toNat / 2 ^ k) (climb i.toNat x p k) (p.getD k []))) (congrArg (fun q => hV q) (onW_odd (by omega)).symm) ?_
   refine T_litS (hcells [(onW (i.toNat / 2 ^ k) (climb i.toNat x p k) (p.getD k []))]) rfl rfl rfl rfl rfl rfl rfl rfl rfl rfl rfl rfl rfl (one_h (onW_len (climb_len _ hx _ _) (len_h hp.1 k (by omega)))) (by simp [hcells, hV, Value.cells]) fun a53 w54 hB55 ho56 => ?_
   have S57 := S52.own hB55 ho56
   refine ⟨trivial, ?_⟩
   have hD58 : (Go.Au.ways i.toNat x p k ++ [(onW (i.toNat / 2 ^ k) (climb i.toNat x p k) (p.getD k []))]) = Go.Au.ways i.toNat x p (k + 1) := (ways_snoc _ _ _ _)
   refine Af (h1 := by exact one_hcells _) (hn' := by first | rfl | (simp; done) | (simp; omega) | omega) (hx' := by rw [← hD58]; simp [hcells_append, hcells]) (hbytes := by show _ * 64 ≤ _; omega) 3 (k + 1) (hcells (Go.Au.ways i.toNat x p (k + 1))) S57 (S57.rd 0 rfl) fun a59 c60 w61 hc62 S63 => ?_
   have hh64 : ∀ y ∈ Go.Au.ways i.toNat x p (k + 1), y.length = 64 := by rw [← hD58]; exact (all_app hh28 (all_h1 (onW_len (climb_len _ hx _ _) (len_h hp.1 k (by omega)))))
   refine Pv (Nr ?_)
   refine T_idxAm 0 rfl rfl rfl rfl rfl rfl rfl rfl (by decide) rfl ?_
   have hl66 : ((p.getD k []) ++ (climb i.toNat x p k)).length = 64 := hl50
   have hl65 : (((p.getD k []) ++ (climb i.toNat x p k)).take 32).length = 32 := by simp only [List.length_take, List.length_drop]; omega
   refine T_loadAS ((((p.getD k []) ++ (climb i.toNat x p k)).take 32).map bV).toArray 1 S63 rfl rfl rfl rfl rfl rfl rfl rfl rfl (hVs hl65) (hV_cut (l := ((p.getD k []) ++ (climb i.toNat x p k))) (q := 0) (m := 32) (by omega)) ?_
   refine T_idxAm 32 rfl rfl rfl rfl rfl rfl rfl rfl (by decide) rfl ?_
   have hl68 : ((p.getD k []) ++ (climb i.toNat x p k)).length = 64 := hl50
   have hl67 : ((((p.getD k []) ++ (climb i.toNat x p k)).drop 32).take 32).length = 32 := by simp only [List.length_take, List.length_drop]; omega
   refine T_loadAS (((((p.getD k []) ++ (climb i.toNat x p k)).drop 32).take 32).map bV).toArray 1 S63 rfl rfl rfl rfl rfl rfl rfl rfl rfl (hVs hl67) (hV_cut (l := ((p.getD k []) ++ (climb i.toNat x p k))) (q := 32) (m := 32) (by omega)) ?_
   refine Cs g_aumbry_tree_Node ((node_ok S63.le (hT.mono hl24) hl65 hl67).mono ?_)
   rintro e w70 ⟨rfl, hB69⟩
   have S71 := S63.call hB69
   refine ⟨_, rfl, trivial, ?_⟩
   refine T_re (v' := hV (climb i.toNat x p (k + 1))) (congrArg (fun q => hV q) (wnode (onW_odd (by omega)) hl50)) ?_
   refine Ah (hl := by exact hVs (climb_len _ hx _ _)) (hl2 := by exact (hVs (climb_len _ hx _ _)).trans (hVs (climb_len _ hx _ _)).symm) (h1 := by exact one_hA _) 5 S71 fun w72 S73 => (T_nil (W_region ?_))
   refine Pv ?_
   refine T_quo rfl rfl rfl rfl rfl rfl (by omega) ?_
   refine T_re (v' := .int .i64 ((i.toNat / 2 ^ (k + 1) : Nat) : Int)) (congrArg (Value.int .i64) (half_int _ _)) (Pv (T_nil (W_region ?_)))
   refine Ar ?_
   refine Pv (T_nil ?_)
   have S74 := S73.drop 2
   have S75 := S74.drop 1
   have S76 := S75.drop 0
   exact ⟨p.length - (k + 1), [(1, .int .i64 ((i.toNat / 2 ^ (k + 1) : Nat) : Int)), (6, .pointer (some ⟨b1, 0, none⟩)), (9, .pointer (some ⟨b4, 0, none⟩)), (11, .slice a59 (k + 1) c60), (34, .slice aa3 p.length cc3), (35, .int .i64 ((p.length : Nat) : Int)), (36, .int .i64 ((k + 1 : Nat) : Int))], by omega, ⟨ciI, rfl, rfl, rfl, rfl, ciI, ciI, trivial⟩, k + 1, a59, c60, G23, rfl, (by omega), rfl, hl24, S76, hh64, hc62⟩
  refine W_skip (Wr (Pv ?_))
  refine Ak (hl := by exact hVs hl43) 0 S48 ?_
  refine T_re (v' := hV (onW (i.toNat / 2 ^ k) (climb i.toNat x p k) (p.getD k []))) (congrArg (fun q => hV q) (onW_even (by omega)).symm) ?_
  refine T_litS (hcells [(onW (i.toNat / 2 ^ k) (climb i.toNat x p k) (p.getD k []))]) rfl rfl rfl rfl rfl rfl rfl rfl rfl rfl rfl rfl rfl (one_h (onW_len (climb_len _ hx _ _) (len_h hp.1 k (by omega)))) (by simp [hcells, hV, Value.cells]) fun a77 w78 hB79 ho80 => ?_
  have S81 := S48.own hB79 ho80
  refine ⟨trivial, ?_⟩
  have hD82 : (Go.Au.ways i.toNat x p k ++ [(onW (i.toNat / 2 ^ k) (climb i.toNat x p k) (p.getD k []))]) = Go.Au.ways i.toNat x p (k + 1) := (ways_snoc _ _ _ _)
  refine Af (h1 := by exact one_hcells _) (hn' := by first | rfl | (simp; done) | (simp; omega) | omega) (hx' := by rw [← hD82]; simp [hcells_append, hcells]) (hbytes := by show _ * 64 ≤ _; omega) 3 (k + 1) (hcells (Go.Au.ways i.toNat x p (k + 1))) S81 (S81.rd 0 rfl) fun a83 c84 w85 hc86 S87 => ?_
  have hh88 : ∀ y ∈ Go.Au.ways i.toNat x p (k + 1), y.length = 64 := by rw [← hD82]; exact (all_app hh28 (all_h1 (onW_len (climb_len _ hx _ _) (len_h hp.1 k (by omega)))))
  refine Pv (Nr ?_)
  refine T_idxAm 0 rfl rfl rfl rfl rfl rfl rfl rfl (by decide) rfl ?_
  have hl90 : ((climb i.toNat x p k) ++ (p.getD k [])).length = 64 := hl43
  have hl89 : (((climb i.toNat x p k) ++ (p.getD k [])).take 32).length = 32 := by simp only [List.length_take, List.length_drop]; omega
  refine T_loadAS ((((climb i.toNat x p k) ++ (p.getD k [])).take 32).map bV).toArray 1 S87 rfl rfl rfl rfl rfl rfl rfl rfl rfl (hVs hl89) (hV_cut (l := ((climb i.toNat x p k) ++ (p.getD k []))) (q := 0) (m := 32) (by omega)) ?_
  refine T_idxAm 32 rfl rfl rfl rfl rfl rfl rfl rfl (by decide) rfl ?_
  have hl92 : ((climb i.toNat x p k) ++ (p.getD k [])).length = 64 := hl43
  have hl91 : ((((climb i.toNat x p k) ++ (p.getD k [])).drop 32).take 32).length = 32 := by simp only [List.length_take, List.length_drop]; omega
  refine T_loadAS (((((climb i.toNat x p k) ++ (p.getD k [])).drop 32).take 32).map bV).toArray 1 S87 rfl rfl rfl rfl rfl rfl rfl rfl rfl (hVs hl91) (hV_cut (l := ((climb i.toNat x p k) ++ (p.getD k []))) (q := 32) (m := 32) (by omega)) ?_
  refine Cs g_aumbry_tree_Node ((node_ok S87.le (hT.mono hl24) hl89 hl91).mono ?_)
  rintro e w94 ⟨rfl, hB93⟩
  have S95 := S87.call hB93
  refine ⟨_, rfl, trivial, ?_⟩
  refine T_re (v' := hV (climb i.toNat x p (k + 1))) (congrArg (fun q => hV q) (wnode (onW_even (by omega)) hl43)) ?_
  refine Ah (hl := by exact hVs (climb_len _ hx _ _)) (hl2 := by exact (hVs (climb_len _ hx _ _)).trans (hVs (climb_len _ hx _ _)).symm) (h1 := by exact one_hA _) 5 S95 fun w96 S97 => (T_nil (W_region ?_))
  refine Pv ?_
  refine T_quo rfl rfl rfl rfl rfl rfl (by omega) ?_
  refine T_re (v' := .int .i64 ((i.toNat / 2 ^ (k + 1) : Nat) : Int)) (congrArg (Value.int .i64) (half_int _ _)) (Pv (T_nil (W_region ?_)))
  refine Ar ?_
  refine Pv (T_nil ?_)
  have S98 := S97.drop 2
  have S99 := S98.drop 1
  have S100 := S99.drop 0
  exact ⟨p.length - (k + 1), [(1, .int .i64 ((i.toNat / 2 ^ (k + 1) : Nat) : Int)), (6, .pointer (some ⟨b1, 0, none⟩)), (9, .pointer (some ⟨b4, 0, none⟩)), (11, .slice a83 (k + 1) c84), (34, .slice aa3 p.length cc3), (35, .int .i64 ((p.length : Nat) : Int)), (36, .int .i64 ((k + 1 : Nat) : Int))], by omega, ⟨ciI, rfl, rfl, rfl, rfl, ciI, ciI, trivial⟩, k + 1, a83, c84, G23, rfl, (by omega), rfl, hl24, S100, hh88, hc86⟩
 refine W_exit (W_seq (W_draw rfl (by kernel_rfl) ?_))
 have S101 := S30.drew
 refine Pv ?_
 refine Ak (hl := by exact hVs (climb_len _ hx _ _)) 2 S101 ?_
 refine Pv ?_
 refine Ah (hl := by exact hVs (climb_len _ hx _ _)) (hl2 := by exact hVs (climb_len _ hx _ _)) (h1 := by exact one_hA _) 1 S101 fun w102 S103 => ?_
 refine Pv (T_nil (W_ret ?_))
 refine ⟨_, ⟨_, _, rfl, rfl, ⟨_, _, _, rfl, rfl, run_loadVarA rfl rfl (hVs (climb_len _ hx _ _)) (S103.cells 1 rfl), ⟨_, _, rfl, rfl, rfl⟩⟩⟩, ?_⟩
 have hok : okW n i p.length = true := okW_mk (by omega)
 obtain rfl : k = p.length := by omega
 rw [waysH_ok hok, climbH_ok hok, hok]
 exact way_end (ways_len _ _ _ _) hc27 (S103.row 0 rfl) hh28 S103.below


theorem climb_ok {H : Hp} {w : World} (hH : H.le (hw w)) (hT : Tabs H) (n i : Int) {x : List UInt8} (hx : x.length = 32) {p : List (List UInt8)} {aa3 : Option Addr} {nn3 cc3 : Nat} (hp : RdH H (.slice aa3 nn3 cc3) 32 p) :
  Calls Tryz.prog 70 #[.int .i64 n, .int .i64 i, hV x, .slice aa3 nn3 cc3] w fun e w' => e = .returned (.tuple #[hV (climbH n i x p), .bool (okW n i p.length)]) ∧ Below w.heap.size w w' := by
 obtain rfl : nn3 = p.length := hp.len
 have hpcap : p.length ≤ cc3 := hp.2.capOf
 refine enter4 _ Tryz.func70 rfl Tryz.ntmps70 Tryz.results70 rfl ?_
 have S0 := St.start w hH
 refine Wr (Al S0 fun b1 w2 S3 => ?_)
 refine Ad S3 fun b4 w5 S6 => ?_
 refine Pv (Nr ?_)
 iterate 2 refine Pv ?_
 refine Ak (hl := by exact hVs hx) 1 S6 ?_
 refine Pv ?_
 refine Cs g_aumbry_tree_way ((way_ok S6.le hT n i hx hp).mono ?_)
 rintro e w12 ⟨a7, c8, hc9, rfl, hr10, hB11⟩
 obtain ⟨G14, eG16⟩ : ∃ G, G = F.ext H w5.heap.size w12 := ⟨_, rfl⟩
 obtain ⟨hl15, S13⟩ := S6.ext hB11
 rw [← eG16] at hl15 S13 hr10
 refine ⟨_, rfl, trivial, ?_⟩
 iterate 4 refine Pv ?_
 refine Ad S13 fun b17 w18 S19 => ?_
 refine Pv ?_
 refine Ah (hl := by exact hVs (climbH_len _ _ hx _)) (hl2 := by exact hVs (climbH_len _ _ hx _)) (h1 := by exact one_hA _) 0 S19 fun w20 S21 => ?_
 refine Pv (Nr ?_)
 refine Ak (hl := by exact hVs (climbH_len _ _ hx _)) 0 S21 ?_
 refine Pv ?_
 refine Ah (hl := by exact hVs (climbH_len _ _ hx _)) (hl2 := by exact hVs (climbH_len _ _ hx _)) (h1 := by exact one_hA _) 1 S21 fun w22 S23 => ?_
 refine Pv (T_nil (W_ret ?_))
 refine ⟨_, ⟨_, _, _, rfl, rfl, run_loadVarA rfl rfl (hVs (climbH_len _ _ hx _)) (S23.cells 1 rfl), ⟨_, _, rfl, rfl, rfl⟩⟩, ?_⟩
 exact ⟨rfl, S23.below⟩


theorem climbR_ok {H : Hp} {w : World} (hH : H.le (hw w)) (n i : Int) {x : List UInt8} (hx : x.length = 32) {p : List (List UInt8)} {aa3 : Option Addr} {nn3 cc3 : Nat} (hp : RdH H (.slice aa3 nn3 cc3) 32 p) :
  Calls Tryz.prog 77 #[.int .i64 n, .int .i64 i, hV x, .slice aa3 nn3 cc3] w fun e w' => e = .returned (.tuple #[hV (climbH n i x p), .bool (okW n i p.length)]) ∧ Below w.heap.size w w' := by
 obtain rfl : nn3 = p.length := hp.len
 have hpcap : p.length ≤ cc3 := hp.2.capOf
 refine enter4 _ Tryz.func77 rfl Tryz.ntmps77 Tryz.results77 rfl ?_
 have S0 := St.start w hH
 refine Wr (Al S0 fun b1 w2 S3 => ?_)
 refine Ad S3 fun b4 w5 S6 => ?_
 refine Pv (T_nil (W_seq (Wr ?_)))
 iterate 3 refine Pv ?_
 refine Tp 14 (fun h7' => ?_) (fun h7' => ?_)
 ·have h7 := of_decide_eq_true h7'
  iterate 3 refine No ?_
  iterate 2 refine Pv ?_
  iterate 2 refine No ?_
  refine Pv (T_nil ?_)
  refine W_cond_true rfl (Wr (T_buildA (cells := (hV (List.replicate 32 0)).cells) rfl rfl rfl rfl rfl rfl rfl rfl rfl rfl (Ah (hl := by exact hVs List.length_replicate) (hl2 := by exact hVs List.length_replicate) (h1 := by exact one_hA _) 0 S6 fun w8 S9 => ?_)))
  refine Pv (T_nil (W_ret ?_))
  refine ⟨_, ⟨_, _, _, rfl, rfl, run_loadVarA rfl rfl (hVs List.length_replicate) (S9.cells 0 rfl), ⟨_, _, rfl, rfl, rfl⟩⟩, ?_⟩
  have hno : okW n i p.length = false := okW_no (by omega)
  rw [climbH_no hno, hno]
  exact ⟨rfl, S9.below⟩
 have h7 := of_decide_eq_false h7'
 iterate 3 (refine Ys ?_; refine Pv ?_)
 iterate 2 refine Pv ?_
 refine Tp 19 (fun h10' => ?_) (fun h10' => ?_)
 ·have h10 := of_decide_eq_true h10'
  iterate 2 refine No ?_
  refine Pv (T_nil ?_)
  refine W_cond_true rfl (Wr (T_buildA (cells := (hV (List.replicate 32 0)).cells) rfl rfl rfl rfl rfl rfl rfl rfl rfl rfl (Ah (hl := by exact hVs List.length_replicate) (hl2 := by exact hVs List.length_replicate) (h1 := by exact one_hA _) 0 S6 fun w11 S12 => ?_)))
  refine Pv (T_nil (W_ret ?_))
  refine ⟨_, ⟨_, _, _, rfl, rfl, run_loadVarA rfl rfl (hVs List.length_replicate) (S12.cells 0 rfl), ⟨_, _, rfl, rfl, rfl⟩⟩, ?_⟩
  have hno : okW n i p.length = false := okW_no (by omega)
  rw [climbH_no hno, hno]
  exact ⟨rfl, S12.below⟩
 have h10 := of_decide_eq_false h10'
 iterate 2 (refine Ys ?_; refine Pv ?_)
 refine Pv (T_nil ?_)
 refine Aa (fun h13 => ?_) (fun h13 => ?_)
 ·refine Wr (T_buildA (cells := (hV (List.replicate 32 0)).cells) rfl rfl rfl rfl rfl rfl rfl rfl rfl rfl (Ah (hl := by exact hVs List.length_replicate) (hl2 := by exact hVs List.length_replicate) (h1 := by exact one_hA _) 0 S6 fun w14 S15 => ?_))
  refine Pv (T_nil (W_ret ?_))
  refine ⟨_, ⟨_, _, _, rfl, rfl, run_loadVarA rfl rfl (hVs List.length_replicate) (S15.cells 0 rfl), ⟨_, _, rfl, rfl, rfl⟩⟩, ?_⟩
  have hno : okW n i p.length = false := okW_no (by omega)
  rw [climbH_no hno, hno]
  exact ⟨rfl, S15.below⟩
 refine W_skip (Wr (Pv (T_nil (W_seq (W_block ?_)))))
 have hlg := lg_le (n := n.toNat) (m := 8) (by omega)
 refine W_loop (fun M ρ w' => ∃ (q : Nat) (G16 : Hp), M = (lg n.toNat) - q ∧ q ≤ (lg n.toNat) ∧ ρ = [(0, .int .i64 n), (1, .int .i64 i), (3, .slice aa3 p.length cc3), (6, .pointer (some ⟨b1, 0, none⟩)), (8, .pointer (some ⟨b4, 0, none⟩)), (10, .int .i64 (q : Int))] ∧ H.le G16 ∧ St w H G16 [.blk b4 (hV (List.replicate 32 0) : Value).cells 27, .blk b1 (hV x : Value).cells 27] w')
  ((lg n.toNat) - 0) [(0, .int .i64 n), (1, .int .i64 i), (3, .slice aa3 p.length cc3), (6, .pointer (some ⟨b1, 0, none⟩)), (8, .pointer (some ⟨b4, 0, none⟩)), (10, .int .i64 ((0 : Nat) : Int))] ⟨ciI, ciI, rfl, rfl, rfl, ciI, trivial⟩ ⟨0, H, rfl, (by exact Nat.zero_le _), rfl, Hp.le.refl _, S6⟩ ?_
 rintro M ρ w18 ⟨q, G16, rfl, hp20, rfl, hl17, S19⟩
 refine W_seq (Wr ?_)
 iterate 2 refine Pv ?_
 refine T_re (v' := .int .u64 ((q : Nat) : Int)) (congrArg (Value.int .u64) (by rw [IntKind.wrap_u64]; omega)) ?_
 refine T_shl rfl rfl rfl rfl rfl rfl (by omega) ?_
 refine T_re (v' := .int .i64 ((2 ^ q : Nat) : Int)) (congrArg (Value.int .i64) (shl1 (by omega))) ?_
 refine Pv ?_
 refine Cs g_aumbry_aumbryref07_Pad ((padR_ok S19.le n (by omega)).mono ?_)
 rintro e w22 ⟨rfl, hB21⟩
 have S23 := S19.call hB21
 refine ⟨_, rfl, trivial, ?_⟩
 refine Pv (T_nil ?_)
 refine Aa (fun h24 => ?_) (fun h24 => ?_)
 ·refine W_skip (W_block (W_region ?_))
  have hq := pow_lt_pad (n := n.toNat) (q := q) (by omega)
  refine Pv ?_
  refine Ar ?_
  refine Pv (T_nil ?_)
  exact ⟨(lg n.toNat) - (q + 1), [(0, .int .i64 n), (1, .int .i64 i), (3, .slice aa3 p.length cc3), (6, .pointer (some ⟨b1, 0, none⟩)), (8, .pointer (some ⟨b4, 0, none⟩)), (10, .int .i64 ((q + 1 : Nat) : Int))], by omega, ⟨ciI, ciI, rfl, rfl, rfl, ciI, trivial⟩, q + 1, G16, rfl, (by omega), rfl, hl17, S23⟩
 refine W_exit (W_seq (Wr ?_))
 obtain rfl : q = lg n.toNat := pow_lg (by assumption) (by omega)
 iterate 4 refine Pv ?_
 refine T_nil (W_cond_not rfl (fun h25 => ?_) (fun h25 => ?_))
 ·refine Wr (T_buildA (cells := (hV (List.replicate 32 0)).cells) rfl rfl rfl rfl rfl rfl rfl rfl rfl rfl (Ah (hl := by exact hVs List.length_replicate) (hl2 := by exact hVs List.length_replicate) (h1 := by exact one_hA _) 0 S23 fun w26 S27 => ?_))
  refine Pv (T_nil (W_ret ?_))
  refine ⟨_, ⟨_, _, _, rfl, rfl, run_loadVarA rfl rfl (hVs List.length_replicate) (S27.cells 0 rfl), ⟨_, _, rfl, rfl, rfl⟩⟩, ?_⟩
  have hno : okW n i p.length = false := okW_no (by omega)
  rw [climbH_no hno, hno]
  exact ⟨rfl, S27.below⟩
 refine W_skip (W_seq (Wr ?_))
 iterate 3 refine Pv ?_
 refine T_nil (W_block ?_)
 refine W_loop (fun M ρ w' => ∃ (k : Nat) (G28 : Hp), M = p.length - k ∧ k ≤ p.length ∧ ρ = [(1, .int .i64 ((i.toNat / 2 ^ k : Nat) : Int)), (3, .slice aa3 p.length cc3), (6, .pointer (some ⟨b1, 0, none⟩)), (8, .pointer (some ⟨b4, 0, none⟩)), (38, .int .i64 ((p.length : Nat) : Int)), (39, .int .i64 (k : Int))] ∧ G16.le G28 ∧ St w H G28 [.blk b4 (hV (List.replicate 32 0) : Value).cells 27, .blk b1 (hV (climb i.toNat x p k) : Value).cells 27] w')
  (p.length - 0) [(1, .int .i64 ((i.toNat / 2 ^ 0 : Nat) : Int)), (3, .slice aa3 p.length cc3), (6, .pointer (some ⟨b1, 0, none⟩)), (8, .pointer (some ⟨b4, 0, none⟩)), (38, .int .i64 ((p.length : Nat) : Int)), (39, .int .i64 ((0 : Nat) : Int))] ⟨ciI, rfl, rfl, rfl, ciI, ciI, trivial⟩ ⟨0, G16, rfl, (by omega), rfl, Hp.le.refl _, S23⟩ ?_
 rintro M ρ w30 ⟨k, G28, rfl, hp32, rfl, hl29, S31⟩
 refine Wr (Pv (T_nil (W_seq ?_)))
 refine Aa (fun h33 => ?_) (fun h33 => ?_)
 ·refine W_skip (W_seq (W_block (Wr ?_)))
  have hnn := Int.natCast_nonneg (i.toNat / 2 ^ k)
  have hdl := Nat.div_le_self i.toNat (2 ^ k)
  iterate 2 refine Pv ?_
  refine T_nil (W_seq (Wr (Pv ?_)))
  refine T_rem rfl rfl rfl rfl rfl rfl (by omega) ?_
  refine Pv (T_nil ?_)
  refine Aa (fun h34 => ?_) (fun h34 => ?_)
  ·refine W_draw rfl (by kernel_rfl) ?_
   have S35 := S31.drew
   refine Ak (hl := by exact hVs (climb_len _ hx _ _)) 1 S35 ?_
   iterate 2 refine Pv ?_
   refine Ag k (hp.mono (hl17.trans hl29)).2 fun b36 o37 hc38 => ?_
   have hc39 := cells_h (hp.mono (hl17.trans hl29)).1 k (by omega) hc38
   have hl40 := len_h (hp.mono (hl17.trans hl29)).1 k (by omega)
   refine T_loadGA _ S35 hc39 rfl rfl rfl rfl rfl rfl rfl rfl (hVs hl40) (Cs g_aumbry_aumbryref07_Node ((nodeR_ok S35.le (climb_len _ hx _ _) hl40).mono ?_))
   rintro e w42 ⟨rfl, hB41⟩
   have S43 := S35.call hB41
   refine ⟨_, rfl, trivial, ?_⟩
   refine T_re (v' := hV (climb i.toNat x p (k + 1))) (congrArg (fun q => hV q) (climb_even (by omega) (climb_len _ hx _ _))) ?_
   refine Ah (hl := by exact hVs (climb_len _ hx _ _)) (hl2 := by exact (hVs (climb_len _ hx _ _)).trans (hVs (climb_len _ hx _ _)).symm) (h1 := by exact one_hA _) 1 S43 fun w44 S45 => (T_nil (W_region ?_))
   refine Pv ?_
   refine T_quo rfl rfl rfl rfl rfl rfl (by omega) ?_
   refine T_re (v' := .int .i64 ((i.toNat / 2 ^ (k + 1) : Nat) : Int)) (congrArg (Value.int .i64) (half_int _ _)) (Pv (T_nil (W_region ?_)))
   refine Ar ?_
   refine Pv (T_nil ?_)
   exact ⟨p.length - (k + 1), [(1, .int .i64 ((i.toNat / 2 ^ (k + 1) : Nat) : Int)), (3, .slice aa3 p.length cc3), (6, .pointer (some ⟨b1, 0, none⟩)), (8, .pointer (some ⟨b4, 0, none⟩)), (38, .int .i64 ((p.length : Nat) : Int)), (39, .int .i64 ((k + 1 : Nat) : Int))], by omega, ⟨ciI, rfl, rfl, rfl, ciI, ciI, trivial⟩, k + 1, G28, rfl, (by omega), rfl, hl29, S45⟩
  refine W_draw rfl (by kernel_rfl) ?_
  have S46 := S31.drew
  iterate 2 refine Pv ?_
  refine Ag k (hp.mono (hl17.trans hl29)).2 fun b47 o48 hc49 => ?_
  have hc50 := cells_h (hp.mono (hl17.trans hl29)).1 k (by omega) hc49
  have hl51 := len_h (hp.mono (hl17.trans hl29)).1 k (by omega)
  refine T_loadGA _ S46 hc50 rfl rfl rfl rfl rfl rfl rfl rfl (hVs hl51) (Ak (hl := by exact hVs (climb_len _ hx _ _)) 1 S46 ?_)
  refine Cs g_aumbry_aumbryref07_Node ((nodeR_ok S46.le hl51 (climb_len _ hx _ _)).mono ?_)
  rintro e w53 ⟨rfl, hB52⟩
  have S54 := S46.call hB52
  refine ⟨_, rfl, trivial, ?_⟩
  refine T_re (v' := hV (climb i.toNat x p (k + 1))) (congrArg (fun q => hV q) (climb_odd (by omega) (len_h hp.1 k (by omega)))) ?_
  refine Ah (hl := by exact hVs (climb_len _ hx _ _)) (hl2 := by exact (hVs (climb_len _ hx _ _)).trans (hVs (climb_len _ hx _ _)).symm) (h1 := by exact one_hA _) 1 S54 fun w55 S56 => (T_nil (W_region ?_))
  refine Pv ?_
  refine T_quo rfl rfl rfl rfl rfl rfl (by omega) ?_
  refine T_re (v' := .int .i64 ((i.toNat / 2 ^ (k + 1) : Nat) : Int)) (congrArg (Value.int .i64) (half_int _ _)) (Pv (T_nil (W_region ?_)))
  refine Ar ?_
  refine Pv (T_nil ?_)
  exact ⟨p.length - (k + 1), [(1, .int .i64 ((i.toNat / 2 ^ (k + 1) : Nat) : Int)), (3, .slice aa3 p.length cc3), (6, .pointer (some ⟨b1, 0, none⟩)), (8, .pointer (some ⟨b4, 0, none⟩)), (38, .int .i64 ((p.length : Nat) : Int)), (39, .int .i64 ((k + 1 : Nat) : Int))], by omega, ⟨ciI, rfl, rfl, rfl, ciI, ciI, trivial⟩, k + 1, G28, rfl, (by omega), rfl, hl29, S56⟩
 refine W_exit (Wr (Ak (hl := by exact hVs (climb_len _ hx _ _)) 1 S31 ?_))
 refine Ah (hl := by exact hVs (climb_len _ hx _ _)) (hl2 := by exact hVs (climb_len _ hx _ _)) (h1 := by exact one_hA _) 0 S31 fun w57 S58 => ?_
 refine Pv (T_nil (W_ret ?_))
 refine ⟨_, ⟨_, _, _, rfl, rfl, run_loadVarA rfl rfl (hVs (climb_len _ hx _ _)) (S58.cells 0 rfl), ⟨_, _, rfl, rfl, rfl⟩⟩, ?_⟩
 have hok : okW n i p.length = true := okW_mk (by omega)
 obtain rfl : k = p.length := by omega
 rw [climbH_ok hok, hok]
 exact ⟨rfl, S58.below⟩


theorem check_ok {H : Hp} {w : World} (hH : H.le (hw w)) (hT : Tabs H) {r : List UInt8} (hr : r.length = 32) (n i : Int) {x : List UInt8} (hx : x.length = 32) {p : List (List UInt8)} {aa4 : Option Addr} {nn4 cc4 : Nat} (hp : RdH H (.slice aa4 nn4 cc4) 32 p) :
  Calls Tryz.prog 28 #[hV r, .int .i64 n, .int .i64 i, hV x, .slice aa4 nn4 cc4] w fun e w' => e = .returned (.bool (okW n i p.length && decide (climbH n i x p = r))) ∧ Below w.heap.size w w' := by
 obtain rfl : nn4 = p.length := hp.len
 have hpcap : p.length ≤ cc4 := hp.2.capOf
 refine enter5 _ Tryz.func28 rfl Tryz.ntmps28 Tryz.results28 rfl ?_
 have S0 := St.start w hH
 refine Wr (Al S0 fun b1 w2 S3 => ?_)
 refine Al S3 fun b4 w5 S6 => ?_
 refine Pv (Nr ?_)
 iterate 2 refine Pv ?_
 refine Ak (hl := by exact hVs hx) 0 S6 ?_
 refine Pv ?_
 refine Cs g_aumbry_tree_Climb ((climb_ok S6.le hT n i hx hp).mono ?_)
 rintro e w8 ⟨rfl, hB7⟩
 have S9 := S6.call hB7
 refine ⟨_, rfl, trivial, ?_⟩
 iterate 3 refine Pv ?_
 refine Ad S9 fun b10 w11 S12 => ?_
 refine Ah (hl := by exact hVs (climbH_len _ _ hx _)) (hl2 := by exact hVs (climbH_len _ _ hx _)) (h1 := by exact one_hA _) 0 S12 fun w13 S14 => ?_
 refine Pv (Nr ?_)
 iterate 2 refine Pv ?_
 refine Tp 22 (fun h15' => ?_) (fun h15' => ?_)
 ·have h15 := h15'
  refine Ys ?_
  refine Ak (hl := by exact hVs (climbH_len _ _ hx _)) 0 S14 ?_
  refine Ys ?_
  refine Ak (hl := by exact hVs hr) 2 S14 ?_
  refine Ys ?_
  refine T_eqB (xs := climbH n i x p) (ys := r) rfl rfl rfl rfl rfl rfl rfl rfl rfl rfl rfl (climbH_len _ _ hx _) hr ?_
  iterate 2 refine Pv ?_
  refine T_nil (W_ret ?_)
  refine ⟨_, ⟨_, _, rfl, rfl, rfl⟩, ?_⟩
  exact ⟨by rw [h15, Bool.true_and]; rfl, S14.below⟩
 have h15 := h15'
 iterate 3 refine No ?_
 iterate 2 refine Pv ?_
 refine T_nil (W_ret ?_)
 refine ⟨_, ⟨_, _, rfl, rfl, rfl⟩, ?_⟩
 exact ⟨by rw [h15]; rfl, S14.below⟩

end Go.Proofs.YtmjmjjkigblbgaaGreatDoor
