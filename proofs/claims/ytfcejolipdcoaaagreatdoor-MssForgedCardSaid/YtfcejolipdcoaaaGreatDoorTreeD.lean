/- Walks of the program's functions. -/
import Derived.Test.YtfcejolipdcoaaaGreatDoorWotsB
import Derived.Test.YtfcejolipdcoaaaGreatDoorAuDoor
set_option linter.unusedVariables false
set_option linter.unusedSimpArgs false
set_option maxRecDepth 8192
namespace Go.Proofs.YtfcejolipdcoaaaGreatDoor
open Go Go.F Go.RowKit
open Go.Au

theorem pow_bd {k : Nat} (h : k ≤ 41) : 2 ^ k ≤ 2199023255552 := (show 2 ^ k ≤ 2 ^ 41 from Nat.pow_le_pow_right (by omega) h)
theorem pow_gt {m k : Nat} (h : 1 < 2 ^ (m - k)) : k < m := by
 rcases Nat.lt_or_ge k m with h1 | h1
 ·exact h1
 ·rw [show m - k = 0 by omega] at h; simp at h
theorem pow_done {m k : Nat} (h : k ≤ m) (h1 : ¬ 1 < 2 ^ (m - k)) : k = m := by
 rcases Nat.lt_or_ge k m with h2 | h2
 ·rw [show m - k = (m - k - 1) + 1 by omega, Nat.pow_succ] at h1
  have := Nat.pow_pos (n := m - k - 1) (show 0 < 2 by omega)
  omega
 ·omega
theorem pow_half {m k : Nat} (h : k < m) : ((2 ^ (m - k) : Nat) : Int) / 2 = ((2 ^ (m - (k + 1)) : Nat) : Int) := by
 have e : 2 ^ (m - k) = 2 ^ (m - (k + 1)) * 2 := by rw [← Nat.pow_succ]; congr 1; omega
 rw [e]; generalize 2 ^ (m - (k + 1)) = x; omega
theorem pow_lt_pad {n q : Nat} (h : 2 ^ q < padN n) : q < lg n := by
 rcases Nat.lt_or_ge q (lg n) with h1 | h1
 ·exact h1
 ·have h2 : 2 ^ lg n ≤ 2 ^ q := Nat.pow_le_pow_right (by omega) h1
  unfold padN at h; omega
theorem pow_lg {n q : Nat} (h : q ≤ lg n) (h1 : ¬ 2 ^ q < padN n) : q = lg n := by
 rcases Nat.lt_or_ge q (lg n) with h2 | h2
 ·exact absurd (Nat.pow_lt_pow_right (by omega) h2) h1
 ·omega
theorem shl1 {k : Nat} (h : k < 62) : IntKind.i64.wrap ((1 : Int) * 2 ^ (min ((k : Nat) : Int).toNat IntKind.i64.bits)) = ((2 ^ k : Nat) : Int) := by
 have e : min ((k : Nat) : Int).toNat IntKind.i64.bits = k := by show min k 64 = k; omega
 have hp : 2 ^ k ≤ 2305843009213693952 := (show 2 ^ k ≤ 2 ^ 61 from Nat.pow_le_pow_right (by omega) (by omega))
 have hc : (2 : Int) ^ k = ((2 ^ k : Nat) : Int) := (Int.natCast_pow 2 k).symm
 rw [e, Int.one_mul, hc]
 generalize 2 ^ k = x at *
 exact wrap64_id (by omega) (by omega)
theorem onW_odd {i : Nat} {x q : List UInt8} (h : i % 2 = 1) : onW i x q = q ++ x := if_pos h
theorem onW_even {i : Nat} {x q : List UInt8} (h : ¬ i % 2 = 1) : onW i x q = x ++ q := if_neg h
theorem wnode {i : Nat} {c q d : List UInt8} (h : onW i c q = d) (hl : d.length = 64) : Go.Au.node (d.take 32) ((d.drop 32).take 32) = nodeP (onW i c q) := by
 subst h; unfold nodeP
 rw [List.take_of_length_le (l := List.drop 32 _) (by rw [List.length_drop]; omega)]
theorem climb_even {i k : Nat} {x : List UInt8} {p : List (List UInt8)} (h : ¬ i / 2 ^ k % 2 = 1) (hc : (climb i x p k).length = 32) : Go.Au.node (climb i x p k) (p.getD k []) = climb i x p (k + 1) := by
 rw [climb, onW_even h, nodeP_app hc]
theorem climb_odd {i k : Nat} {x : List UInt8} {p : List (List UInt8)} (h : i / 2 ^ k % 2 = 1) (hc : (p.getD k []).length = 32) : Go.Au.node (p.getD k []) (climb i x p k) = climb i x p (k + 1) := by
 rw [climb, onW_odd h, nodeP_app hc]
theorem way_end {W w : World} {H : Hp} {D : List (List UInt8)} {et : TypeId} {k c : Nat} {a : Option Addr} {hv bv : Value} (hl : D.length = k) (hc : k ≤ c) (ho : rowZ w W.heap.size et 64 (.slice a k c) k (hcells D)) (hall : ∀ h ∈ D, h.length = 64) (hB : Below W.heap.size W w) :
  ∃ a' c', D.length ≤ c' ∧ Ending.returned (.tuple #[.slice a k c, hv, bv]) = .returned (.tuple #[.slice a' D.length c', hv, bv]) ∧ RdH (F.ext H W.heap.size w) (.slice a' D.length c') 64 D ∧ Below W.heap.size W w := by
 subst hl; exact ⟨a, c, hc, rfl, ⟨hall, Rd.of_own_ext ho⟩, hB⟩
theorem high_ok {H : Hp} {w : World} (hH : H.le (hw w)) (n : Int) (hn : n ≤ 2199023255552) :
  Calls Tryz.prog 91 #[.int .i64 n] w fun e w' => e = .returned (.int .i64 ((lg n.toNat : Nat) : Int)) ∧ Below w.heap.size w w' := by
 have hlg := lg_le (n := n.toNat) (m := 41) (by show _ ≤ 2199023255552; omega)
 have hp0 : padN n.toNat = 2 ^ ((lg n.toNat) - 0) := rfl
 refine enter1 _ Tryz.func91 rfl Tryz.ntmps91 Tryz.results91 rfl ?_
 have S0 := St.start w hH
 refine Wr (Pv (Nr ?_))
 refine Pv (T_nil (W_seq (Wr ?_)))
 refine Pv ?_
 refine Cs g_aumbry_tree_Pad ((pad_ok S0.le n (by omega)).mono ?_)
 rintro e w2 ⟨rfl, hB1⟩
 have S3 := S0.call hB1
 refine ⟨_, rfl, trivial, ?_⟩
 refine Pv (T_nil (W_block ?_))
 refine W_loop (fun M ρ w' => ∃ (k : Nat) (G4 : Hp), M = (lg n.toNat) - k ∧ k ≤ (lg n.toNat) ∧ ρ = [(3, .int .i64 (k : Int)), (4, .int .i64 ((2 ^ ((lg n.toNat) - k) : Nat) : Int))] ∧ H.le G4 ∧ St w H G4 [] w')
  ((lg n.toNat) - 0) [(3, .int .i64 ((0 : Nat) : Int)), (4, .int .i64 ((2 ^ ((lg n.toNat) - 0) : Nat) : Int))] ⟨ciI, ciI, trivial⟩ ⟨0, H, rfl, (by exact Nat.zero_le _), rfl, Hp.le.refl _, S3⟩ ?_
 rintro M ρ w6 ⟨k, G4, rfl, hp8, rfl, hl5, S7⟩
 have hpb := pow_bd (k := (lg n.toNat) - k) (by omega)
 refine W_seq (Wr (P2 (T_nil ?_)))
 refine Aa (fun h9 => ?_) (fun h9 => ?_)
 ·refine W_skip (W_seq (W_block (W_region ?_)))
  have hk := pow_gt (m := (lg n.toNat)) (k := k) (by omega)
  refine Pv ?_
  refine Ar ?_
  refine Pv (T_nil (W_region ?_))
  refine Pv ?_
  refine T_quo rfl rfl rfl rfl rfl rfl (by omega) ?_
  refine T_re (v' := .int .i64 ((2 ^ ((lg n.toNat) - (k + 1)) : Nat) : Int)) (congrArg (Value.int .i64) (pow_half hk)) (Pv (T_nil ?_))
  exact ⟨(lg n.toNat) - (k + 1), [(3, .int .i64 ((k + 1 : Nat) : Int)), (4, .int .i64 ((2 ^ ((lg n.toNat) - (k + 1)) : Nat) : Int))], by omega, ⟨ciI, ciI, trivial⟩, k + 1, G4, rfl, (by omega), rfl, hl5, S7⟩
 refine W_exit (Wr (P2 (T_nil (W_ret ?_))))
 refine ⟨_, ⟨_, _, rfl, rfl, rfl⟩, ?_⟩
 have hk : k = (lg n.toNat) := pow_done (by assumption) (by omega)
 exact ⟨by rw [hk]; rfl, S7.below⟩


theorem way_ok {H : Hp} {w : World} (hH : H.le (hw w)) (hT : Tabs H) (n i : Int) {x : List UInt8} (hx : x.length = 32) {p : List (List UInt8)} {aa3 : Option Addr} {nn3 cc3 : Nat} (hp : RdH H (.slice aa3 nn3 cc3) 32 p) :
  Calls Tryz.prog 68 #[.int .i64 n, .int .i64 i, hV x, .slice aa3 nn3 cc3] w fun e w' => ∃ a c, (waysH n i x p).length ≤ c ∧ e = .returned (.tuple #[.slice a (waysH n i x p).length c, hV (climbH n i x p), .bool (okW n i p.length)]) ∧ RdH (F.ext H w.heap.size w') (.slice a (waysH n i x p).length c) 64 (waysH n i x p) ∧ Below w.heap.size w w' := by
 obtain rfl : nn3 = p.length := hp.len
 have hpcap : p.length ≤ cc3 := hp.2.capOf
 refine enter4 _ Tryz.func68 rfl Tryz.ntmps68 Tryz.results68 rfl ?_
 have S0 := St.start w hH
 refine Wr (Ah S0 fun b1 w2 S3 => ?_)
 refine Pv ?_
 refine Ac S3 fun b4 w5 S6 => ?_
 refine Pv (T_nil (W_seq (Wr ?_)))
 refine P3 ?_
 refine Td 17 (fun h7 => ?_) (fun h7 => ?_)
 ·iterate 3 refine No ?_
  iterate 2 (refine Pv ?_; refine Pv ?_; refine No ?_; refine No ?_)
  iterate 3 refine No ?_
  refine Pv (T_nil ?_)
  refine W_cond_true rfl (Wr (T_buildA (cells := (hV (List.replicate 32 0)).cells) rfl rfl rfl rfl rfl rfl rfl rfl rfl rfl (Pv ?_)))
  refine Ag (hl := by exact hVs List.length_replicate) (hl2 := by exact hVs List.length_replicate) (h1 := by exact one_hA _) 0 S6 fun w8 S9 => ?_
  refine Pv (T_nil (W_ret ?_))
  refine ⟨_, ⟨_, _, rfl, rfl, ⟨_, _, _, rfl, rfl, run_loadVarA rfl rfl (hVs List.length_replicate) (S9.cells 0 rfl), ⟨_, _, rfl, rfl, rfl⟩⟩⟩, ?_⟩
  have hno : okW n i p.length = false := okW_no (by omega)
  rw [waysH_no hno, climbH_no hno, hno]
  exact ⟨none, 0, Nat.le_refl _, rfl, ⟨fun _ h => (by cases h), Rd.nil _ 64⟩, S9.below⟩
 iterate 3 (refine Ys ?_; refine Pv ?_)
 refine P2 ?_
 refine Td 22 (fun h10 => ?_) (fun h10 => ?_)
 ·iterate 2 refine No ?_
  refine P2 ?_
  iterate 5 refine No ?_
  refine Pv (T_nil ?_)
  refine W_cond_true rfl (Wr (T_buildA (cells := (hV (List.replicate 32 0)).cells) rfl rfl rfl rfl rfl rfl rfl rfl rfl rfl (Pv ?_)))
  refine Ag (hl := by exact hVs List.length_replicate) (hl2 := by exact hVs List.length_replicate) (h1 := by exact one_hA _) 0 S6 fun w11 S12 => ?_
  refine Pv (T_nil (W_ret ?_))
  refine ⟨_, ⟨_, _, rfl, rfl, ⟨_, _, _, rfl, rfl, run_loadVarA rfl rfl (hVs List.length_replicate) (S12.cells 0 rfl), ⟨_, _, rfl, rfl, rfl⟩⟩⟩, ?_⟩
  have hno : okW n i p.length = false := okW_no (by omega)
  rw [waysH_no hno, climbH_no hno, hno]
  exact ⟨none, 0, Nat.le_refl _, rfl, ⟨fun _ h => (by cases h), Rd.nil _ 64⟩, S12.below⟩
 iterate 2 (refine Ys ?_; refine Pv ?_)
 refine P2 ?_
 refine Td 26 (fun h13 => ?_) (fun h13 => ?_)
 ·iterate 5 refine No ?_
  refine Pv (T_nil ?_)
  refine W_cond_true rfl (Wr (T_buildA (cells := (hV (List.replicate 32 0)).cells) rfl rfl rfl rfl rfl rfl rfl rfl rfl rfl (Pv ?_)))
  refine Ag (hl := by exact hVs List.length_replicate) (hl2 := by exact hVs List.length_replicate) (h1 := by exact one_hA _) 0 S6 fun w14 S15 => ?_
  refine Pv (T_nil (W_ret ?_))
  refine ⟨_, ⟨_, _, rfl, rfl, ⟨_, _, _, rfl, rfl, run_loadVarA rfl rfl (hVs List.length_replicate) (S15.cells 0 rfl), ⟨_, _, rfl, rfl, rfl⟩⟩⟩, ?_⟩
  have hno : okW n i p.length = false := okW_no (by omega)
  rw [waysH_no hno, climbH_no hno, hno]
  exact ⟨none, 0, Nat.le_refl _, rfl, ⟨fun _ h => (by cases h), Rd.nil _ 64⟩, S15.below⟩
 iterate 3 (refine Ys ?_; refine Pv ?_)
 refine Ys ?_
 refine Cs g_aumbry_tree_high ((high_ok S6.le n (by omega)).mono ?_)
 rintro e w17 ⟨rfl, hB16⟩
 have S18 := S6.call hB16
 refine ⟨_, rfl, trivial, ?_⟩
 refine Ys ?_
 refine P2 (T_nil ?_)
 refine W_cond_not rfl (fun h19 => ?_) (fun h19 => ?_)
 ·refine Wr (T_buildA (cells := (hV (List.replicate 32 0)).cells) rfl rfl rfl rfl rfl rfl rfl rfl rfl rfl (Pv ?_))
  refine Ag (hl := by exact hVs List.length_replicate) (hl2 := by exact hVs List.length_replicate) (h1 := by exact one_hA _) 0 S18 fun w20 S21 => ?_
  refine Pv (T_nil (W_ret ?_))
  refine ⟨_, ⟨_, _, rfl, rfl, ⟨_, _, _, rfl, rfl, run_loadVarA rfl rfl (hVs List.length_replicate) (S21.cells 0 rfl), ⟨_, _, rfl, rfl, rfl⟩⟩⟩, ?_⟩
  have hno : okW n i p.length = false := okW_no (by omega)
  rw [waysH_no hno, climbH_no hno, hno]
  exact ⟨none, 0, Nat.le_refl _, rfl, ⟨fun _ h => (by cases h), Rd.nil _ 64⟩, S21.below⟩
 refine W_skip (Wr (Pv (T_nil (W_seq (Wr ?_)))))
 refine P3 (T_nil (W_block ?_))
 have hlg := lg_le (n := n.toNat) (m := 8) (by omega)
 have S22 := S18.nilRow 93 64
 refine W_loop (fun M ρ w' => ∃ (k : Nat) (a25 : Option Addr) (c26 : Nat) (G23 : Hp), M = p.length - k ∧ k ≤ p.length ∧ ρ = [(1, .int .i64 ((i.toNat / 2 ^ k : Nat) : Int)), (6, .pointer (some ⟨b1, 0, none⟩)), (9, .pointer (some ⟨b4, 0, none⟩)), (11, .slice a25 k c26), (34, .slice aa3 p.length cc3), (35, .int .i64 ((p.length : Nat) : Int)), (36, .int .i64 (k : Int))] ∧ H.le G23 ∧ St w H G23 [.row 93 64 (.slice a25 k c26) k (hcells (Go.Au.ways i.toNat x p k)), .blk b4 (hV (List.replicate 32 0) : Value).cells 37, .blk b1 (hV (climb i.toNat x p k) : Value).cells 37] w' ∧ (∀ y ∈ Go.Au.ways i.toNat x p k, y.length = 64) ∧ k ≤ c26)
  (p.length - 0) [(1, .int .i64 ((i.toNat / 2 ^ 0 : Nat) : Int)), (6, .pointer (some ⟨b1, 0, none⟩)), (9, .pointer (some ⟨b4, 0, none⟩)), (11, .slice none 0 0), (34, .slice aa3 p.length cc3), (35, .int .i64 ((p.length : Nat) : Int)), (36, .int .i64 ((0 : Nat) : Int))] ⟨ciI, rfl, rfl, rfl, rfl, ciI, ciI, trivial⟩ ⟨0, none, 0, H, rfl, (by omega), rfl, Hp.le.refl _, S22, (fun _ h => by cases h), (Nat.le_refl _)⟩ ?_
 rintro M ρ w29 ⟨k, a25, c26, G23, rfl, hp31, rfl, hl24, S30, hh28, hc27⟩
 refine Wr (Pv (T_nil (W_seq ?_)))
 refine Aa (fun h32 => ?_) (fun h32 => ?_)
 ·refine W_skip (W_seq (W_block (Wr ?_)))
  have hnn := Int.natCast_nonneg (i.toNat / 2 ^ k)
  have hdl := Nat.div_le_self i.toNat (2 ^ k)
  refine Af k (hp.mono hl24).2 fun b33 o34 hc35 => ?_
  have hc36 := cells_h (hp.mono hl24).1 k (by omega) hc35
  have hl37 := len_h (hp.mono hl24).1 k (by omega)
  refine T_loadGA _ S30 hc36 rfl rfl rfl rfl rfl rfl rfl rfl (hVs hl37) (Ac S30 fun b38 w39 S40 => ?_)
  refine Ag (hl := by exact hVs hl37) (hl2 := by exact hVs hl37) (h1 := by exact one_hA _) 0 S40 fun w41 S42 => (Nr ?_)
  refine Ai (hl := by exact hVs (climb_len _ hx _ _)) 3 S42 ?_
  refine Ai (hl := by exact hVs hl37) 0 S42 ?_
  have hl43 : ((climb i.toNat x p k) ++ (p.getD k [])).length = 64 := by rw [List.length_append, (climb_len _ hx _ _), hl37]
  refine T_buildA (cells := (hV ((climb i.toNat x p k) ++ (p.getD k []))).cells) rfl rfl rfl rfl rfl rfl (fill2 (by decide) rfl rfl (climb_len _ hx _ _) hl37) rfl rfl rfl ?_
  refine Ac S42 fun b44 w45 S46 => ?_
  refine Ag (hl := by exact hVs hl43) (hl2 := by exact hVs hl43) (h1 := by exact one_hA _) 0 S46 fun w47 S48 => (T_nil (W_seq (Wr ?_)))
  refine Pv ?_
  refine T_rem rfl rfl rfl rfl rfl rfl (by omega) ?_
  refine Pv (T_nil ?_)
  refine Aa (fun h49 => ?_) (fun h49 => ?_)
  ·refine W_region (Ai (hl := by exact hVs hl37) 1 S48 ?_)
   refine Ai (hl := by exact hVs (climb_len _ hx _ _)) 4 S48 ?_
   have hl50 : ((p.getD k []) ++ (climb i.toNat x p k)).length = 64 := by rw [List.length_append, hl37, (climb_len _ hx _ _)]
   refine T_buildA (cells := (hV ((p.getD k []) ++ (climb i.toNat x p k))).cells) rfl rfl rfl rfl rfl rfl (fill2 (by decide) rfl rfl hl37 (climb_len _ hx _ _)) rfl rfl rfl ?_
   refine Ag (hl := by exact hVs hl50) (hl2 := by exact (hVs hl50).trans (hVs hl43).symm) (h1 := by exact one_hA _) 0 S48 fun w51 S52 => (Nr ?_)
   refine Pv ?_
   refine Ai (hl := by exact hVs hl50) 0 S52 ?_
   refine T_re (v' := hV (onW (i.toNat / 2 ^ k) (climb i.toNat x p k) (p.getD k []))) (congrArg (fun q => hV q) (onW_odd (by omega)).symm) ?_
   refine T_litS (hcells [(onW (i.toNat / 2 ^ k) (climb i.toNat x p k) (p.getD k []))]) rfl rfl rfl rfl rfl rfl rfl rfl rfl rfl rfl rfl rfl (one_h (onW_len (climb_len _ hx _ _) (len_h hp.1 k (by omega)))) (by simp [hcells, hV, Value.cells]) fun a53 w54 hB55 ho56 => ?_
   have S57 := S52.own hB55 ho56
   refine ⟨trivial, ?_⟩
   have hD58 : (Go.Au.ways i.toNat x p k ++ [(onW (i.toNat / 2 ^ k) (climb i.toNat x p k) (p.getD k []))]) = Go.Au.ways i.toNat x p (k + 1) := (ways_snoc _ _ _ _)
   refine Ae (h1 := by exact one_hcells _) (hn' := by first | rfl | (simp; done) | (simp; omega) | omega) (hx' := by rw [← hD58]; simp [hcells_append, hcells]) (hbytes := by show _ * 64 ≤ _; omega) 3 (k + 1) (hcells (Go.Au.ways i.toNat x p (k + 1))) S57 (S57.rd 0 rfl) fun a59 c60 w61 hc62 S63 => ?_
   have hh64 : ∀ y ∈ Go.Au.ways i.toNat x p (k + 1), y.length = 64 := by rw [← hD58]; exact (all_app hh28 (all_h1 (onW_len (climb_len _ hx _ _) (len_h hp.1 k (by omega)))))
   refine Pv (Nr ?_)
   refine T_idxAm 0 rfl rfl rfl rfl rfl rfl rfl rfl (by decide) rfl ?_
   have hl66 : ((p.getD k []) ++ (climb i.toNat x p k)).length = 64 := hl50
   have hl65 : (((p.getD k []) ++ (climb i.toNat x p k)).take 32).length = 32 := by simp only [List.length_take, List.length_drop]; omega
   refine T_loadAS ((((p.getD k []) ++ (climb i.toNat x p k)).take 32).map bV).toArray 1 S63 rfl rfl rfl rfl rfl rfl rfl rfl rfl (hVs hl65) (hV_cut (l := ((p.getD k []) ++ (climb i.toNat x p k))) (q := 0) (m := 32) (by omega)) ?_
   refine T_idxAm 32 rfl rfl rfl rfl rfl rfl rfl rfl (by decide) rfl ?_
   have hl68 : ((p.getD k []) ++ (climb i.toNat x p k)).length = 64 := hl50
   have hl67 : ((((p.getD k []) ++ (climb i.toNat x p k)).drop 32).take 32).length = 32 := by simp only [List.length_take, List.length_drop]; omega
   refine T_loadAS (((((p.getD k []) ++ (climb i.toNat x p k)).drop 32).take 32).map bV).toArray 1 S63 rfl rfl rfl rfl rfl rfl rfl rfl rfl (hVs hl67) (hV_cut (l := ((p.getD k []) ++ (climb i.toNat x p k))) (q := 32) (m := 32) (by omega)) ?_
   refine Cs g_aumbry_tree_Node ((node_ok S63.le (hT.mono hl24) hl65 hl67).mono ?_)
   rintro e w70 ⟨rfl, hB69⟩
   have S71 := S63.call hB69
   refine ⟨_, rfl, trivial, ?_⟩
   refine T_re (v' := hV (climb i.toNat x p (k + 1))) (congrArg (fun q => hV q) (wnode (onW_odd (by omega)) hl50)) ?_
   refine Ag (hl := by exact hVs (climb_len _ hx _ _)) (hl2 := by exact (hVs (climb_len _ hx _ _)).trans (hVs (climb_len _ hx _ _)).symm) (h1 := by exact one_hA _) 5 S71 fun w72 S73 => (T_nil (W_region ?_))
   refine Pv ?_
   refine T_quo rfl rfl rfl rfl rfl rfl (by omega) ?_
   refine T_re (v' := .int .i64 ((i.toNat / 2 ^ (k + 1) : Nat) : Int)) (congrArg (Value.int .i64) (half_int _ _)) (Pv (T_nil (W_region ?_)))
   refine Ar ?_
   refine Pv (T_nil ?_)
   have S74 := S73.drop 2
   have S75 := S74.drop 1
   have S76 := S75.drop 0
   exact ⟨p.length - (k + 1), [(1, .int .i64 ((i.toNat / 2 ^ (k + 1) : Nat) : Int)), (6, .pointer (some ⟨b1, 0, none⟩)), (9, .pointer (some ⟨b4, 0, none⟩)), (11, .slice a59 (k + 1) c60), (34, .slice aa3 p.length cc3), (35, .int .i64 ((p.length : Nat) : Int)), (36, .int .i64 ((k + 1 : Nat) : Int))], by omega, ⟨ciI, rfl, rfl, rfl, rfl, ciI, ciI, trivial⟩, k + 1, a59, c60, G23, rfl, (by omega), rfl, hl24, S76, hh64, hc62⟩
  refine W_skip (Wr (Pv ?_))
  refine Ai (hl := by exact hVs hl43) 0 S48 ?_
  refine T_re (v' := hV (onW (i.toNat / 2 ^ k) (climb i.toNat x p k) (p.getD k []))) (congrArg (fun q => hV q) (onW_even (by omega)).symm) ?_
  refine T_litS (hcells [(onW (i.toNat / 2 ^ k) (climb i.toNat x p k) (p.getD k []))]) rfl rfl rfl rfl rfl rfl rfl rfl rfl rfl rfl rfl rfl (one_h (onW_len (climb_len _ hx _ _) (len_h hp.1 k (by omega)))) (by simp [hcells, hV, Value.cells]) fun a77 w78 hB79 ho80 => ?_
  have S81 := S48.own hB79 ho80
  refine ⟨trivial, ?_⟩
  have hD82 : (Go.Au.ways i.toNat x p k ++ [(onW (i.toNat / 2 ^ k) (climb i.toNat x p k) (p.getD k []))]) = Go.Au.ways i.toNat x p (k + 1) := (ways_snoc _ _ _ _)
  refine Ae (h1 := by exact one_hcells _) (hn' := by first | rfl | (simp; done) | (simp; omega) | omega) (hx' := by rw [← hD82]; simp [hcells_append, hcells]) (hbytes := by show _ * 64 ≤ _; omega) 3 (k + 1) (hcells (Go.Au.ways i.toNat x p (k + 1))) S81 (S81.rd 0 rfl) fun a83 c84 w85 hc86 S87 => ?_
  have hh88 : ∀ y ∈ Go.Au.ways i.toNat x p (k + 1), y.length = 64 := by rw [← hD82]; exact (all_app hh28 (all_h1 (onW_len (climb_len _ hx _ _) (len_h hp.1 k (by omega)))))
  refine Pv (Nr ?_)
  refine T_idxAm 0 rfl rfl rfl rfl rfl rfl rfl rfl (by decide) rfl ?_
  have hl90 : ((climb i.toNat x p k) ++ (p.getD k [])).length = 64 := hl43
  have hl89 : (((climb i.toNat x p k) ++ (p.getD k [])).take 32).length = 32 := by simp only [List.length_take, List.length_drop]; omega
  refine T_loadAS ((((climb i.toNat x p k) ++ (p.getD k [])).take 32).map bV).toArray 1 S87 rfl rfl rfl rfl rfl rfl rfl rfl rfl (hVs hl89) (hV_cut (l := ((climb i.toNat x p k) ++ (p.getD k []))) (q := 0) (m := 32) (by omega)) ?_
  refine T_idxAm 32 rfl rfl rfl rfl rfl rfl rfl rfl (by decide) rfl ?_
  have hl92 : ((climb i.toNat x p k) ++ (p.getD k [])).length = 64 := hl43
  have hl91 : ((((climb i.toNat x p k) ++ (p.getD k [])).drop 32).take 32).length = 32 := by simp only [List.length_take, List.length_drop]; omega
  refine T_loadAS (((((climb i.toNat x p k) ++ (p.getD k [])).drop 32).take 32).map bV).toArray 1 S87 rfl rfl rfl rfl rfl rfl rfl rfl rfl (hVs hl91) (hV_cut (l := ((climb i.toNat x p k) ++ (p.getD k []))) (q := 32) (m := 32) (by omega)) ?_
  refine Cs g_aumbry_tree_Node ((node_ok S87.le (hT.mono hl24) hl89 hl91).mono ?_)
  rintro e w94 ⟨rfl, hB93⟩
  have S95 := S87.call hB93
  refine ⟨_, rfl, trivial, ?_⟩
  refine T_re (v' := hV (climb i.toNat x p (k + 1))) (congrArg (fun q => hV q) (wnode (onW_even (by omega)) hl43)) ?_
  refine Ag (hl := by exact hVs (climb_len _ hx _ _)) (hl2 := by exact (hVs (climb_len _ hx _ _)).trans (hVs (climb_len _ hx _ _)).symm) (h1 := by exact one_hA _) 5 S95 fun w96 S97 => (T_nil (W_region ?_))
  refine Pv ?_
  refine T_quo rfl rfl rfl rfl rfl rfl (by omega) ?_
  refine T_re (v' := .int .i64 ((i.toNat / 2 ^ (k + 1) : Nat) : Int)) (congrArg (Value.int .i64) (half_int _ _)) (Pv (T_nil (W_region ?_)))
  refine Ar ?_
  refine Pv (T_nil ?_)
  have S98 := S97.drop 2
  have S99 := S98.drop 1
  have S100 := S99.drop 0
  exact ⟨p.length - (k + 1), [(1, .int .i64 ((i.toNat / 2 ^ (k + 1) : Nat) : Int)), (6, .pointer (some ⟨b1, 0, none⟩)), (9, .pointer (some ⟨b4, 0, none⟩)), (11, .slice a83 (k + 1) c84), (34, .slice aa3 p.length cc3), (35, .int .i64 ((p.length : Nat) : Int)), (36, .int .i64 ((k + 1 : Nat) : Int))], by omega, ⟨ciI, rfl, rfl, rfl, rfl, ciI, ciI, trivial⟩, k + 1, a83, c84, G23, rfl, (by omega), rfl, hl24, S100, hh88, hc86⟩
 refine W_exit (W_seq (W_draw rfl (by kernel_rfl) ?_))
 have S101 := S30.drew
 refine Pv ?_
 refine Ai (hl := by exact hVs (climb_len _ hx _ _)) 2 S101 ?_
 refine Pv ?_
 refine Ag (hl := by exact hVs (climb_len _ hx _ _)) (hl2 := by exact hVs (climb_len _ hx _ _)) (h1 := by exact one_hA _) 1 S101 fun w102 S103 => ?_
 refine Pv (T_nil (W_ret ?_))
 refine ⟨_, ⟨_, _, rfl, rfl, ⟨_, _, _, rfl, rfl, run_loadVarA rfl rfl (hVs (climb_len _ hx _ _)) (S103.cells 1 rfl), ⟨_, _, rfl, rfl, rfl⟩⟩⟩, ?_⟩
 have hok : okW n i p.length = true := okW_mk (by omega)
 obtain rfl : k = p.length := by omega
 rw [waysH_ok hok, climbH_ok hok, hok]
 exact way_end (ways_len _ _ _ _) hc27 (S103.row 0 rfl) hh28 S103.below


theorem climb_ok {H : Hp} {w : World} (hH : H.le (hw w)) (hT : Tabs H) (n i : Int) {x : List UInt8} (hx : x.length = 32) {p : List (List UInt8)} {aa3 : Option Addr} {nn3 cc3 : Nat} (hp : RdH H (.slice aa3 nn3 cc3) 32 p) :
  Calls Tryz.prog 64 #[.int .i64 n, .int .i64 i, hV x, .slice aa3 nn3 cc3] w fun e w' => e = .returned (.tuple #[hV (climbH n i x p), .bool (okW n i p.length)]) ∧ Below w.heap.size w w' := by
 obtain rfl : nn3 = p.length := hp.len
 have hpcap : p.length ≤ cc3 := hp.2.capOf
 refine enter4 _ Tryz.func64 rfl Tryz.ntmps64 Tryz.results64 rfl ?_
 have S0 := St.start w hH
 refine Wr (Ah S0 fun b1 w2 S3 => ?_)
 refine Ac S3 fun b4 w5 S6 => ?_
 refine Pv (Nr ?_)
 refine P2 ?_
 refine Ai (hl := by exact hVs hx) 1 S6 ?_
 refine Pv ?_
 refine Cs g_aumbry_tree_way ((way_ok S6.le hT n i hx hp).mono ?_)
 rintro e w12 ⟨a7, c8, hc9, rfl, hr10, hB11⟩
 obtain ⟨G14, eG16⟩ : ∃ G, G = F.ext H w5.heap.size w12 := ⟨_, rfl⟩
 obtain ⟨hl15, S13⟩ := S6.ext hB11
 rw [← eG16] at hl15 S13 hr10
 refine ⟨_, rfl, trivial, ?_⟩
 iterate 4 refine Pv ?_
 refine Ac S13 fun b17 w18 S19 => ?_
 refine Pv ?_
 refine Ag (hl := by exact hVs (climbH_len _ _ hx _)) (hl2 := by exact hVs (climbH_len _ _ hx _)) (h1 := by exact one_hA _) 0 S19 fun w20 S21 => ?_
 refine Pv (Nr ?_)
 refine Ai (hl := by exact hVs (climbH_len _ _ hx _)) 0 S21 ?_
 refine Pv ?_
 refine Ag (hl := by exact hVs (climbH_len _ _ hx _)) (hl2 := by exact hVs (climbH_len _ _ hx _)) (h1 := by exact one_hA _) 1 S21 fun w22 S23 => ?_
 refine Pv (T_nil (W_ret ?_))
 refine ⟨_, ⟨_, _, _, rfl, rfl, run_loadVarA rfl rfl (hVs (climbH_len _ _ hx _)) (S23.cells 1 rfl), ⟨_, _, rfl, rfl, rfl⟩⟩, ?_⟩
 exact ⟨rfl, S23.below⟩


theorem climbR_ok {H : Hp} {w : World} (hH : H.le (hw w)) (n i : Int) {x : List UInt8} (hx : x.length = 32) {p : List (List UInt8)} {aa3 : Option Addr} {nn3 cc3 : Nat} (hp : RdH H (.slice aa3 nn3 cc3) 32 p) :
  Calls Tryz.prog 42 #[.int .i64 n, .int .i64 i, hV x, .slice aa3 nn3 cc3] w fun e w' => e = .returned (.tuple #[hV (climbH n i x p), .bool (okW n i p.length)]) ∧ Below w.heap.size w w' := by
 obtain rfl : nn3 = p.length := hp.len
 have hpcap : p.length ≤ cc3 := hp.2.capOf
 refine enter4 _ Tryz.func42 rfl Tryz.ntmps42 Tryz.results42 rfl ?_
 have S0 := St.start w hH
 refine Wr (Ah S0 fun b1 w2 S3 => ?_)
 refine Ac S3 fun b4 w5 S6 => ?_
 refine Pv (T_nil (W_seq (Wr ?_)))
 refine P3 ?_
 refine Td 14 (fun h7 => ?_) (fun h7 => ?_)
 ·iterate 3 refine No ?_
  refine P2 ?_
  iterate 2 refine No ?_
  refine Pv (T_nil ?_)
  refine W_cond_true rfl (Wr (T_buildA (cells := (hV (List.replicate 32 0)).cells) rfl rfl rfl rfl rfl rfl rfl rfl rfl rfl (Ag (hl := by exact hVs List.length_replicate) (hl2 := by exact hVs List.length_replicate) (h1 := by exact one_hA _) 0 S6 fun w8 S9 => ?_)))
  refine Pv (T_nil (W_ret ?_))
  refine ⟨_, ⟨_, _, _, rfl, rfl, run_loadVarA rfl rfl (hVs List.length_replicate) (S9.cells 0 rfl), ⟨_, _, rfl, rfl, rfl⟩⟩, ?_⟩
  have hno : okW n i p.length = false := okW_no (by omega)
  rw [climbH_no hno, hno]
  exact ⟨rfl, S9.below⟩
 iterate 3 (refine Ys ?_; refine Pv ?_)
 refine P2 ?_
 refine Td 19 (fun h10 => ?_) (fun h10 => ?_)
 ·iterate 2 refine No ?_
  refine Pv (T_nil ?_)
  refine W_cond_true rfl (Wr (T_buildA (cells := (hV (List.replicate 32 0)).cells) rfl rfl rfl rfl rfl rfl rfl rfl rfl rfl (Ag (hl := by exact hVs List.length_replicate) (hl2 := by exact hVs List.length_replicate) (h1 := by exact one_hA _) 0 S6 fun w11 S12 => ?_)))
  refine Pv (T_nil (W_ret ?_))
  refine ⟨_, ⟨_, _, _, rfl, rfl, run_loadVarA rfl rfl (hVs List.length_replicate) (S12.cells 0 rfl), ⟨_, _, rfl, rfl, rfl⟩⟩, ?_⟩
  have hno : okW n i p.length = false := okW_no (by omega)
  rw [climbH_no hno, hno]
  exact ⟨rfl, S12.below⟩
 iterate 2 (refine Ys ?_; refine Pv ?_)
 refine Pv (T_nil ?_)
 refine Aa (fun h13 => ?_) (fun h13 => ?_)
 ·refine Wr (T_buildA (cells := (hV (List.replicate 32 0)).cells) rfl rfl rfl rfl rfl rfl rfl rfl rfl rfl (Ag (hl := by exact hVs List.length_replicate) (hl2 := by exact hVs List.length_replicate) (h1 := by exact one_hA _) 0 S6 fun w14 S15 => ?_))
  refine Pv (T_nil (W_ret ?_))
  refine ⟨_, ⟨_, _, _, rfl, rfl, run_loadVarA rfl rfl (hVs List.length_replicate) (S15.cells 0 rfl), ⟨_, _, rfl, rfl, rfl⟩⟩, ?_⟩
  have hno : okW n i p.length = false := okW_no (by omega)
  rw [climbH_no hno, hno]
  exact ⟨rfl, S15.below⟩
 refine W_skip (Wr (Pv (T_nil (W_seq (W_block ?_)))))
 have hlg := lg_le (n := n.toNat) (m := 8) (by omega)
 refine W_loop (fun M ρ w' => ∃ (q : Nat) (G16 : Hp), M = (lg n.toNat) - q ∧ q ≤ (lg n.toNat) ∧ ρ = [(0, .int .i64 n), (1, .int .i64 i), (3, .slice aa3 p.length cc3), (6, .pointer (some ⟨b1, 0, none⟩)), (8, .pointer (some ⟨b4, 0, none⟩)), (10, .int .i64 (q : Int))] ∧ H.le G16 ∧ St w H G16 [.blk b4 (hV (List.replicate 32 0) : Value).cells 37, .blk b1 (hV x : Value).cells 37] w')
  ((lg n.toNat) - 0) [(0, .int .i64 n), (1, .int .i64 i), (3, .slice aa3 p.length cc3), (6, .pointer (some ⟨b1, 0, none⟩)), (8, .pointer (some ⟨b4, 0, none⟩)), (10, .int .i64 ((0 : Nat) : Int))] ⟨ciI, ciI, rfl, rfl, rfl, ciI, trivial⟩ ⟨0, H, rfl, (by exact Nat.zero_le _), rfl, Hp.le.refl _, S6⟩ ?_
 rintro M ρ w18 ⟨q, G16, rfl, hp20, rfl, hl17, S19⟩
 refine W_seq (Wr (P2 ?_))
 refine T_re (v' := .int .u64 ((q : Nat) : Int)) (congrArg (Value.int .u64) (by rw [IntKind.wrap_u64]; omega)) ?_
 refine T_shl rfl rfl rfl rfl rfl rfl (by omega) ?_
 refine T_re (v' := .int .i64 ((2 ^ q : Nat) : Int)) (congrArg (Value.int .i64) (shl1 (by omega))) ?_
 refine Pv ?_
 refine Cs g_aumbry_aumbryref07_Pad ((padR_ok S19.le n (by omega)).mono ?_)
 rintro e w22 ⟨rfl, hB21⟩
 have S23 := S19.call hB21
 refine ⟨_, rfl, trivial, ?_⟩
 refine Pv (T_nil ?_)
 refine Aa (fun h24 => ?_) (fun h24 => ?_)
 ·refine W_skip (W_block (W_region ?_))
  have hq := pow_lt_pad (n := n.toNat) (q := q) (by omega)
  refine Pv ?_
  refine Ar ?_
  refine Pv (T_nil ?_)
  exact ⟨(lg n.toNat) - (q + 1), [(0, .int .i64 n), (1, .int .i64 i), (3, .slice aa3 p.length cc3), (6, .pointer (some ⟨b1, 0, none⟩)), (8, .pointer (some ⟨b4, 0, none⟩)), (10, .int .i64 ((q + 1 : Nat) : Int))], by omega, ⟨ciI, ciI, rfl, rfl, rfl, ciI, trivial⟩, q + 1, G16, rfl, (by omega), rfl, hl17, S23⟩
 refine W_exit (W_seq (Wr ?_))
 obtain rfl : q = lg n.toNat := pow_lg (by assumption) (by omega)
 iterate 4 refine Pv ?_
 refine T_nil (W_cond_not rfl (fun h25 => ?_) (fun h25 => ?_))
 ·refine Wr (T_buildA (cells := (hV (List.replicate 32 0)).cells) rfl rfl rfl rfl rfl rfl rfl rfl rfl rfl (Ag (hl := by exact hVs List.length_replicate) (hl2 := by exact hVs List.length_replicate) (h1 := by exact one_hA _) 0 S23 fun w26 S27 => ?_))
  refine Pv (T_nil (W_ret ?_))
  refine ⟨_, ⟨_, _, _, rfl, rfl, run_loadVarA rfl rfl (hVs List.length_replicate) (S27.cells 0 rfl), ⟨_, _, rfl, rfl, rfl⟩⟩, ?_⟩
  have hno : okW n i p.length = false := okW_no (by omega)
  rw [climbH_no hno, hno]
  exact ⟨rfl, S27.below⟩
 refine W_skip (W_seq (Wr (P3 (T_nil (W_block ?_)))))
 refine W_loop (fun M ρ w' => ∃ (k : Nat) (G28 : Hp), M = p.length - k ∧ k ≤ p.length ∧ ρ = [(1, .int .i64 ((i.toNat / 2 ^ k : Nat) : Int)), (3, .slice aa3 p.length cc3), (6, .pointer (some ⟨b1, 0, none⟩)), (8, .pointer (some ⟨b4, 0, none⟩)), (38, .int .i64 ((p.length : Nat) : Int)), (39, .int .i64 (k : Int))] ∧ G16.le G28 ∧ St w H G28 [.blk b4 (hV (List.replicate 32 0) : Value).cells 37, .blk b1 (hV (climb i.toNat x p k) : Value).cells 37] w')
  (p.length - 0) [(1, .int .i64 ((i.toNat / 2 ^ 0 : Nat) : Int)), (3, .slice aa3 p.length cc3), (6, .pointer (some ⟨b1, 0, none⟩)), (8, .pointer (some ⟨b4, 0, none⟩)), (38, .int .i64 ((p.length : Nat) : Int)), (39, .int .i64 ((0 : Nat) : Int))] ⟨ciI, rfl, rfl, rfl, ciI, ciI, trivial⟩ ⟨0, G16, rfl, (by omega), rfl, Hp.le.refl _, S23⟩ ?_
 rintro M ρ w30 ⟨k, G28, rfl, hp32, rfl, hl29, S31⟩
 refine Wr (Pv (T_nil (W_seq ?_)))
 refine Aa (fun h33 => ?_) (fun h33 => ?_)
 ·refine W_skip (W_seq (W_block (Wr ?_)))
  have hnn := Int.natCast_nonneg (i.toNat / 2 ^ k)
  have hdl := Nat.div_le_self i.toNat (2 ^ k)
  refine P2 (T_nil (W_seq (Wr ?_)))
  refine Pv ?_
  refine T_rem rfl rfl rfl rfl rfl rfl (by omega) ?_
  refine Pv (T_nil ?_)
  refine Aa (fun h34 => ?_) (fun h34 => ?_)
  ·refine W_draw rfl (by kernel_rfl) ?_
   have S35 := S31.drew
   refine Ai (hl := by exact hVs (climb_len _ hx _ _)) 1 S35 ?_
   refine P2 ?_
   refine Af k (hp.mono (hl17.trans hl29)).2 fun b36 o37 hc38 => ?_
   have hc39 := cells_h (hp.mono (hl17.trans hl29)).1 k (by omega) hc38
   have hl40 := len_h (hp.mono (hl17.trans hl29)).1 k (by omega)
   refine T_loadGA _ S35 hc39 rfl rfl rfl rfl rfl rfl rfl rfl (hVs hl40) (Cs g_aumbry_aumbryref07_Node ((nodeR_ok S35.le (climb_len _ hx _ _) hl40).mono ?_))
   rintro e w42 ⟨rfl, hB41⟩
   have S43 := S35.call hB41
   refine ⟨_, rfl, trivial, ?_⟩
   refine T_re (v' := hV (climb i.toNat x p (k + 1))) (congrArg (fun q => hV q) (climb_even (by omega) (climb_len _ hx _ _))) ?_
   refine Ag (hl := by exact hVs (climb_len _ hx _ _)) (hl2 := by exact (hVs (climb_len _ hx _ _)).trans (hVs (climb_len _ hx _ _)).symm) (h1 := by exact one_hA _) 1 S43 fun w44 S45 => (T_nil (W_region ?_))
   refine Pv ?_
   refine T_quo rfl rfl rfl rfl rfl rfl (by omega) ?_
   refine T_re (v' := .int .i64 ((i.toNat / 2 ^ (k + 1) : Nat) : Int)) (congrArg (Value.int .i64) (half_int _ _)) (Pv (T_nil (W_region ?_)))
   refine Ar ?_
   refine Pv (T_nil ?_)
   exact ⟨p.length - (k + 1), [(1, .int .i64 ((i.toNat / 2 ^ (k + 1) : Nat) : Int)), (3, .slice aa3 p.length cc3), (6, .pointer (some ⟨b1, 0, none⟩)), (8, .pointer (some ⟨b4, 0, none⟩)), (38, .int .i64 ((p.length : Nat) : Int)), (39, .int .i64 ((k + 1 : Nat) : Int))], by omega, ⟨ciI, rfl, rfl, rfl, ciI, ciI, trivial⟩, k + 1, G28, rfl, (by omega), rfl, hl29, S45⟩
  refine W_draw rfl (by kernel_rfl) ?_
  have S46 := S31.drew
  refine P2 ?_
  refine Af k (hp.mono (hl17.trans hl29)).2 fun b47 o48 hc49 => ?_
  have hc50 := cells_h (hp.mono (hl17.trans hl29)).1 k (by omega) hc49
  have hl51 := len_h (hp.mono (hl17.trans hl29)).1 k (by omega)
  refine T_loadGA _ S46 hc50 rfl rfl rfl rfl rfl rfl rfl rfl (hVs hl51) (Ai (hl := by exact hVs (climb_len _ hx _ _)) 1 S46 ?_)
  refine Cs g_aumbry_aumbryref07_Node ((nodeR_ok S46.le hl51 (climb_len _ hx _ _)).mono ?_)
  rintro e w53 ⟨rfl, hB52⟩
  have S54 := S46.call hB52
  refine ⟨_, rfl, trivial, ?_⟩
  refine T_re (v' := hV (climb i.toNat x p (k + 1))) (congrArg (fun q => hV q) (climb_odd (by omega) (len_h hp.1 k (by omega)))) ?_
  refine Ag (hl := by exact hVs (climb_len _ hx _ _)) (hl2 := by exact (hVs (climb_len _ hx _ _)).trans (hVs (climb_len _ hx _ _)).symm) (h1 := by exact one_hA _) 1 S54 fun w55 S56 => (T_nil (W_region ?_))
  refine Pv ?_
  refine T_quo rfl rfl rfl rfl rfl rfl (by omega) ?_
  refine T_re (v' := .int .i64 ((i.toNat / 2 ^ (k + 1) : Nat) : Int)) (congrArg (Value.int .i64) (half_int _ _)) (Pv (T_nil (W_region ?_)))
  refine Ar ?_
  refine Pv (T_nil ?_)
  exact ⟨p.length - (k + 1), [(1, .int .i64 ((i.toNat / 2 ^ (k + 1) : Nat) : Int)), (3, .slice aa3 p.length cc3), (6, .pointer (some ⟨b1, 0, none⟩)), (8, .pointer (some ⟨b4, 0, none⟩)), (38, .int .i64 ((p.length : Nat) : Int)), (39, .int .i64 ((k + 1 : Nat) : Int))], by omega, ⟨ciI, rfl, rfl, rfl, ciI, ciI, trivial⟩, k + 1, G28, rfl, (by omega), rfl, hl29, S56⟩
 refine W_exit (Wr (Ai (hl := by exact hVs (climb_len _ hx _ _)) 1 S31 ?_))
 refine Ag (hl := by exact hVs (climb_len _ hx _ _)) (hl2 := by exact hVs (climb_len _ hx _ _)) (h1 := by exact one_hA _) 0 S31 fun w57 S58 => ?_
 refine Pv (T_nil (W_ret ?_))
 refine ⟨_, ⟨_, _, _, rfl, rfl, run_loadVarA rfl rfl (hVs (climb_len _ hx _ _)) (S58.cells 0 rfl), ⟨_, _, rfl, rfl, rfl⟩⟩, ?_⟩
 have hok : okW n i p.length = true := okW_mk (by omega)
 obtain rfl : k = p.length := by omega
 rw [climbH_ok hok, hok]
 exact ⟨rfl, S58.below⟩




theorem may_t {h : Int} (h0 : 0 ≤ h) : decide (h ≤ 4) = mayH h := by
 unfold mayH
 by_cases e : h ≤ 4
 ·rw [decide_eq_true e, decide_eq_true ⟨h0, e⟩]
 ·rw [decide_eq_false e, decide_eq_false (fun x => e x.2)]
theorem may_f {h : Int} (h0 : ¬ 0 ≤ h) : false = mayH h := (decide_eq_false (fun x => h0 x.1)).symm
theorem may_is {h : Int} (hm : 0 ≤ h ∧ h ≤ 4) : (!mayH h) = false := by unfold mayH; rw [decide_eq_true hm]; rfl
theorem may_not {h : Int} (hm : ¬ (0 ≤ h ∧ h ≤ 4)) : (!mayH h) = true := by unfold mayH; rw [decide_eq_false hm]; rfl
theorem shlI {h : Int} (h0 : 0 ≤ h) (h1 : h < 62) : IntKind.i64.wrap ((1 : Int) * 2 ^ (min h.toNat IntKind.i64.bits)) = ((2 ^ h.toNat : Nat) : Int) := by
 have e := shl1 (k := h.toNat) (by omega)
 rwa [show ((h.toNat : Nat) : Int).toNat = h.toNat from Int.toNat_natCast _] at e
theorem printT_bd (h : Int) {r : List UInt8} (hr : r.length = 32) : (printT h r).length < 10000 := text2 (by decide) (by rw [Go.Sha.put_len]; decide) (by omega)
theorem mssMay_ok {H : Hp} {w : World} (hH : H.le (hw w)) (h : Int) :
  Calls Tryz.prog 54 #[.int .i64 h] w fun e w' => e = .returned (.bool (mayH h)) ∧ Below w.heap.size w w' := by
 refine enter1 _ Tryz.func54 rfl Tryz.ntmps54 Tryz.results54 rfl ?_
 have S0 := St.start w hH
 refine Wr (Pv (Nr ?_))
 refine P3 ?_
 refine Td 5 (fun h1 => ?_) (fun h1 => ?_)
 ·iterate 2 (refine Ys ?_; refine Pv ?_)
  refine P2 (T_nil (W_ret ?_))
  refine ⟨_, ⟨_, _, rfl, rfl, rfl⟩, ?_⟩
  exact ⟨congrArg (fun z => Ending.returned (Value.bool z)) (may_t (by omega)), S0.below⟩
 iterate 2 refine No ?_
 refine P2 (T_nil (W_ret ?_))
 refine ⟨_, ⟨_, _, rfl, rfl, rfl⟩, ?_⟩
 exact ⟨congrArg (fun z => Ending.returned (Value.bool z)) (may_f (by omega)), S0.below⟩


theorem leaves_ok {H : Hp} {w : World} (hH : H.le (hw w)) (hT : Tabs H) (h : Int) {seed : List UInt8} (hs : seed.length = 16) (hm : 0 ≤ h ∧ h ≤ 4) :
  Calls Tryz.prog 24 #[hV seed, .int .i64 h] w fun e w' => ∃ a c, (2 ^ h.toNat) ≤ c ∧ e = .returned (.slice a (2 ^ h.toNat) c) ∧ rowZ w' w.heap.size 37 32 (.slice a (2 ^ h.toNat) c) (2 ^ h.toNat) (hcells (mleaves seed h.toNat)) ∧ Below w.heap.size w w' := by
 have hp16 := pow16 (h := h) (by omega) (by omega)
 refine enter2 _ Tryz.func24 rfl Tryz.ntmps24 Tryz.results24 rfl ?_
 have S0 := St.start w hH
 refine Wr (Ah S0 fun b1 w2 S3 => ?_)
 refine Pv (T_nil (W_seq (Wr ?_)))
 refine Pv ?_
 refine Cs g_aumbry_mss_may ((mssMay_ok S3.le h).mono ?_)
 rintro e w5 ⟨rfl, hB4⟩
 have S6 := S3.call hB4
 refine ⟨_, rfl, trivial, ?_⟩
 refine Pv (T_nil ?_)
 refine W_bool 9 false rfl (may_is hm) (W_cond_false rfl (W_skip (Wr (Pv (T_nil (W_seq (Wr ?_)))))))
 refine Pv ?_
 refine T_shl rfl rfl rfl rfl rfl rfl (by omega) ?_
 refine T_re (v' := .int .i64 ((2 ^ h.toNat : Nat) : Int)) (congrArg (Value.int .i64) (shlI (by omega) (by omega))) ?_
 refine Pv (T_nil (W_block ?_))
 have S7 := S6.nilRow 37 32
 refine W_loop (fun M ρ w' => ∃ (k : Nat) (a10 : Option Addr) (c11 : Nat) (G8 : Hp), M = (2 ^ h.toNat) - k ∧ k ≤ (2 ^ h.toNat) ∧ ρ = [(2, .pointer (some ⟨b1, 0, none⟩)), (5, .slice a10 k c11), (11, .int .i64 ((2 ^ h.toNat : Nat) : Int)), (12, .int .i64 (k : Int))] ∧ H.le G8 ∧ St w H G8 [.row 37 32 (.slice a10 k c11) k (hcells (mleavesTo seed k)), .blk b1 (hV seed : Value).cells 23] w' ∧ (∀ y ∈ mleavesTo seed k, y.length = 32) ∧ k ≤ c11)
  ((2 ^ h.toNat) - 0) [(2, .pointer (some ⟨b1, 0, none⟩)), (5, .slice none 0 0), (11, .int .i64 ((2 ^ h.toNat : Nat) : Int)), (12, .int .i64 ((0 : Nat) : Int))] ⟨rfl, rfl, ciI, ciI, trivial⟩ ⟨0, none, 0, H, rfl, (by exact Nat.zero_le _), rfl, Hp.le.refl _, S7, (fun _ h => by cases h), (Nat.le_refl _)⟩ ?_
 rintro M ρ w14 ⟨k, a10, c11, G8, rfl, hp16, rfl, hl9, S15, hh13, hc12⟩
 refine Wr (Pv (T_nil (W_seq ?_)))
 refine Aa (fun h17 => ?_) (fun h17 => ?_)
 ·refine W_skip (W_seq (W_block (Wr (P2 (T_nil (W_region ?_))))))
  refine Pv ?_
  refine Ai (hl := by exact hVs hs) 1 S15 ?_
  refine Pv ?_
  refine Cs g_aumbry_wots_Public ((pub_ok S15.le (hT.mono hl9) (k : Int) hs (by omega)).mono ?_)
  rintro e w19 ⟨rfl, hB18⟩
  have S20 := S15.call hB18
  refine ⟨_, rfl, trivial, ?_⟩
  refine T_litS (hcells [pub seed (k : Int)]) rfl rfl rfl rfl rfl rfl rfl rfl rfl rfl rfl rfl rfl (one_h (pub_len _ _)) (by simp [hcells, hV, Value.cells]) fun a21 w22 hB23 ho24 => ?_
  have S25 := S20.own hB23 ho24
  refine ⟨trivial, ?_⟩
  have hD26 : (mleavesTo seed k ++ [pub seed (k : Int)]) = mleavesTo seed (k + 1) := (mleavesTo_snoc _ _)
  refine Ae (h1 := by exact one_hcells _) (hn' := by first | rfl | (simp; done) | (simp; omega) | omega) (hx' := by rw [← hD26]; simp [hcells_append, hcells]) (hbytes := by show _ * 32 ≤ _; omega) 1 (k + 1) (hcells (mleavesTo seed (k + 1))) S25 (S25.rd 0 rfl) fun a27 c28 w29 hc30 S31 => ?_
  have hh32 : ∀ y ∈ mleavesTo seed (k + 1), y.length = 32 := by rw [← hD26]; exact (all_app hh13 (all_h1 (pub_len _ _)))
  refine Pv (T_nil (W_region ?_))
  refine Ar ?_
  refine Pv (T_nil ?_)
  have S33 := S31.drop 0
  exact ⟨(2 ^ h.toNat) - (k + 1), [(2, .pointer (some ⟨b1, 0, none⟩)), (5, .slice a27 (k + 1) c28), (11, .int .i64 ((2 ^ h.toNat : Nat) : Int)), (12, .int .i64 ((k + 1 : Nat) : Int))], by omega, ⟨rfl, rfl, ciI, ciI, trivial⟩, k + 1, a27, c28, G8, rfl, (by omega), rfl, hl9, S33, hh32, hc30⟩
 refine W_exit (Wr (P2 (T_nil (W_ret ?_))))
 refine ⟨_, ⟨_, _, rfl, rfl, rfl⟩, ?_⟩
 obtain rfl : k = (2 ^ h.toNat) := by omega
 exact ⟨_, _, hc12, rfl, S15.row 0 rfl, S15.below⟩


theorem mssLeavesR_ok {H : Hp} {w : World} (hH : H.le (hw w)) (h : Int) {seed : List UInt8} (hs : seed.length = 16) (hm : 0 ≤ h ∧ h ≤ 4) :
  Calls Tryz.prog 19 #[hV seed, .int .i64 h] w fun e w' => ∃ a c, (2 ^ h.toNat) ≤ c ∧ e = .returned (.slice a (2 ^ h.toNat) c) ∧ rowZ w' w.heap.size 37 32 (.slice a (2 ^ h.toNat) c) (2 ^ h.toNat) (hcells (mleaves seed h.toNat)) ∧ Below w.heap.size w w' := by
 have hp16 := pow16 (h := h) (by omega) (by omega)
 refine enter2 _ Tryz.func19 rfl Tryz.ntmps19 Tryz.results19 rfl ?_
 have S0 := St.start w hH
 refine Wr (Ah S0 fun b1 w2 S3 => ?_)
 refine Pv (Nr ?_)
 refine Pv (T_nil (W_seq (Wr ?_)))
 refine Pv (T_nil (W_block ?_))
 have S4 := S3.nilRow 37 32
 refine W_loop (fun M ρ w' => ∃ (k : Nat) (a7 : Option Addr) (c8 : Nat) (G5 : Hp), M = (2 ^ h.toNat) - k ∧ k ≤ (2 ^ h.toNat) ∧ ρ = [(1, .int .i64 h), (2, .pointer (some ⟨b1, 0, none⟩)), (5, .slice a7 k c8), (6, .int .i64 (k : Int))] ∧ H.le G5 ∧ St w H G5 [.row 37 32 (.slice a7 k c8) k (hcells (mleavesTo seed k)), .blk b1 (hV seed : Value).cells 23] w' ∧ (∀ y ∈ mleavesTo seed k, y.length = 32) ∧ k ≤ c8)
  ((2 ^ h.toNat) - 0) [(1, .int .i64 h), (2, .pointer (some ⟨b1, 0, none⟩)), (5, .slice none 0 0), (6, .int .i64 ((0 : Nat) : Int))] ⟨ciI, rfl, rfl, ciI, trivial⟩ ⟨0, none, 0, H, rfl, (by exact Nat.zero_le _), rfl, Hp.le.refl _, S4, (fun _ h => by cases h), (Nat.le_refl _)⟩ ?_
 rintro M ρ w11 ⟨k, a7, c8, G5, rfl, hp13, rfl, hl6, S12, hh10, hc9⟩
 refine W_seq (Wr (P3 ?_))
 refine T_re (v' := .int .u64 h) (congrArg (Value.int .u64) (by rw [IntKind.wrap_u64]; omega)) ?_
 refine T_shl rfl rfl rfl rfl rfl rfl (by omega) ?_
 refine T_re (v' := .int .i64 ((2 ^ h.toNat : Nat) : Int)) (congrArg (Value.int .i64) (shlI (by omega) (by omega))) ?_
 refine Pv (T_nil ?_)
 refine Aa (fun h14 => ?_) (fun h14 => ?_)
 ·refine W_skip (W_seq (W_block (W_region (Pv ?_))))
  refine Ai (hl := by exact hVs hs) 1 S12 ?_
  refine Pv ?_
  refine Cs g_aumbry_aumbryref07_Public ((pubR_ok S12.le (k : Int) hs (by omega)).mono ?_)
  rintro e w16 ⟨rfl, hB15⟩
  have S17 := S12.call hB15
  refine ⟨_, rfl, trivial, ?_⟩
  refine T_litS (hcells [pub seed (k : Int)]) rfl rfl rfl rfl rfl rfl rfl rfl rfl rfl rfl rfl rfl (one_h (pub_len _ _)) (by simp [hcells, hV, Value.cells]) fun a18 w19 hB20 ho21 => ?_
  have S22 := S17.own hB20 ho21
  refine ⟨trivial, ?_⟩
  have hD23 : (mleavesTo seed k ++ [pub seed (k : Int)]) = mleavesTo seed (k + 1) := (mleavesTo_snoc _ _)
  refine Ae (h1 := by exact one_hcells _) (hn' := by first | rfl | (simp; done) | (simp; omega) | omega) (hx' := by rw [← hD23]; simp [hcells_append, hcells]) (hbytes := by show _ * 32 ≤ _; omega) 1 (k + 1) (hcells (mleavesTo seed (k + 1))) S22 (S22.rd 0 rfl) fun a24 c25 w26 hc27 S28 => ?_
  have hh29 : ∀ y ∈ mleavesTo seed (k + 1), y.length = 32 := by rw [← hD23]; exact (all_app hh10 (all_h1 (pub_len _ _)))
  refine Pv (T_nil (W_region ?_))
  refine Pv ?_
  refine Ar ?_
  refine Pv (T_nil ?_)
  have S30 := S28.drop 0
  exact ⟨(2 ^ h.toNat) - (k + 1), [(1, .int .i64 h), (2, .pointer (some ⟨b1, 0, none⟩)), (5, .slice a24 (k + 1) c25), (6, .int .i64 ((k + 1 : Nat) : Int))], by omega, ⟨ciI, rfl, rfl, ciI, trivial⟩, k + 1, a24, c25, G5, rfl, (by omega), rfl, hl6, S30, hh29, hc27⟩
 refine W_exit (Wr (P2 (T_nil (W_ret ?_))))
 refine ⟨_, ⟨_, _, rfl, rfl, rfl⟩, ?_⟩
 obtain rfl : k = (2 ^ h.toNat) := by omega
 exact ⟨_, _, hc9, rfl, S12.row 0 rfl, S12.below⟩


theorem printT_ok {H : Hp} {w : World} (hH : H.le (hw w)) (hT : Tabs H) (h : Int) {r : List UInt8} (hh : h ≤ 4) (hr : r.length = 32) :
  Calls Tryz.prog 27 #[.int .i64 h, hV r] w fun e w' => ∃ a c, (printT h r).length ≤ c ∧ e = .returned (.slice a (printT h r).length c) ∧ rowZ w' w.heap.size 5 1 (.slice a (printT h r).length c) (printT h r).length ((printT h r).map bV) ∧ Below w.heap.size w w' := by
 have htx := printT_bd h hr
 unfold printT at htx
 refine enter2 _ Tryz.func27 rfl Tryz.ntmps27 Tryz.results27 rfl ?_
 have S0 := St.start w hH
 refine Wr (Ah S0 fun b1 w2 S3 => ?_)
 refine Pv (T_nil (W_seq ?_))
 refine W_draw rfl (by kernel_rfl) ?_
 have S4 := S3.drew
 refine Pv ?_
 refine Cs g_aumbry_code_Put ((putN_ok S4.le h 1 (by omega) (by omega)).mono ?_)
 rintro e w10 ⟨a5, c6, hc7, rfl, ho8, hB9⟩
 have S11 := S4.own hB9 ho8
 refine ⟨_, rfl, trivial, ?_⟩
 obtain ⟨G13, hl14, S12, r15⟩ := S11.stillBlk 1 rfl
 refine T_sliceAll rfl rfl rfl rfl rfl rfl rfl rfl ?_
 have r16 := Rd.of_blk (m := 32) (size := 1) (xs := r.map bV) r15 (hcell1 _) (by rw [List.length_map, hr])
 obtain ⟨G22, hl23, S21, r24⟩ := S12.stillRow 0 rfl
 have rs25 : Rds G22 [.slice a5 ((Go.Sha.put (max 0 h).toNat 1).length) c6, .slice (some ⟨b1, 0, none⟩) 32 32] [Go.Sha.put (max 0 h).toNat 1, r] := Rds.cons (Rd.canonB r24) (Rds.cons (Rd.canonB (r16.mono hl23)) (Rds.nil _))
 refine Ad (hone := by simp [Value.cells]; rfl) [.slice a5 ((Go.Sha.put (max 0 h).toNat 1).length) c6, .slice (some ⟨b1, 0, none⟩) 32 32] fun a17 w18 hB19 ho20 => ?_
 have S26 := S21.own hB19 ho20
 refine ⟨trivial, ?_⟩
 obtain ⟨G28, hl29, S27, r30⟩ := S26.stillRow 0 rfl
 have r31 := RdL.mk r30 (rs25.mono hl29)
 refine Cs g_aumbry_sha_Text ((text_ok S27.le (hT.mono (hl14.trans (hl23.trans hl29))) r31 (by omega)).mono ?_)
 rintro e w37 ⟨a32, c33, hc34, rfl, ho35, hB36⟩
 have S38 := S27.own hB36 ho35
 refine ⟨_, rfl, trivial, ?_⟩
 refine Pv (T_nil (W_ret ?_))
 refine ⟨_, ⟨_, _, rfl, rfl, rfl⟩, ?_⟩
 exact ⟨_, _, hc34, rfl, S38.row 0 rfl, S38.below⟩


theorem printTR_ok {H : Hp} {w : World} (hH : H.le (hw w)) (h : Int) {r : List UInt8} (hh : h ≤ 4) (hr : r.length = 32) :
  Calls Tryz.prog 43 #[.int .i64 h, hV r] w fun e w' => ∃ a c, (printT h r).length ≤ c ∧ e = .returned (.slice a (printT h r).length c) ∧ rowZ w' w.heap.size 5 1 (.slice a (printT h r).length c) (printT h r).length ((printT h r).map bV) ∧ Below w.heap.size w w' := by
 have htx := printT_bd h hr
 unfold printT at htx
 refine enter2 _ Tryz.func43 rfl Tryz.ntmps43 Tryz.results43 rfl ?_
 have S0 := St.start w hH
 refine Wr (Ah S0 fun b1 w2 S3 => ?_)
 refine Pv (T_nil (W_seq ?_))
 refine W_draw rfl (by kernel_rfl) ?_
 have S4 := S3.drew
 refine Pv ?_
 refine Cs g_aumbry_aumbryref01_Put ((putR_ok S4.le h 1 (by omega) (by omega)).mono ?_)
 rintro e w10 ⟨a5, c6, hc7, rfl, ho8, hB9⟩
 have S11 := S4.own hB9 ho8
 refine ⟨_, rfl, trivial, ?_⟩
 obtain ⟨G13, hl14, S12, r15⟩ := S11.stillBlk 1 rfl
 refine T_sliceAll rfl rfl rfl rfl rfl rfl rfl rfl ?_
 have r16 := Rd.of_blk (m := 32) (size := 1) (xs := r.map bV) r15 (hcell1 _) (by rw [List.length_map, hr])
 obtain ⟨G22, hl23, S21, r24⟩ := S12.stillRow 0 rfl
 have rs25 : Rds G22 [.slice a5 ((Go.Sha.put (max 0 h).toNat 1).length) c6, .slice (some ⟨b1, 0, none⟩) 32 32] [Go.Sha.put (max 0 h).toNat 1, r] := Rds.cons (Rd.canonB r24) (Rds.cons (Rd.canonB (r16.mono hl23)) (Rds.nil _))
 refine Ad (hone := by simp [Value.cells]; rfl) [.slice a5 ((Go.Sha.put (max 0 h).toNat 1).length) c6, .slice (some ⟨b1, 0, none⟩) 32 32] fun a17 w18 hB19 ho20 => ?_
 have S26 := S21.own hB19 ho20
 refine ⟨trivial, ?_⟩
 obtain ⟨G28, hl29, S27, r30⟩ := S26.stillRow 0 rfl
 have r31 := RdL.mk r30 (rs25.mono hl29)
 refine Cs g_aumbry_aumbryref01_Text ((textR_ok S27.le r31 (by omega)).mono ?_)
 rintro e w37 ⟨a32, c33, hc34, rfl, ho35, hB36⟩
 have S38 := S27.own hB36 ho35
 refine ⟨_, rfl, trivial, ?_⟩
 refine Pv (T_nil (W_ret ?_))
 refine ⟨_, ⟨_, _, rfl, rfl, rfl⟩, ?_⟩
 exact ⟨_, _, hc34, rfl, S38.row 0 rfl, S38.below⟩


theorem print_ok {H : Hp} {w : World} (hH : H.le (hw w)) (hT : Tabs H) (h : Int) {seed : List UInt8} (hs : seed.length = 16) (hm : 0 ≤ h ∧ h ≤ 4) :
  Calls Tryz.prog 20 #[hV seed, .int .i64 h] w fun e w' => e = .returned (.tuple #[hV (mprint seed h), .int .i64 0]) ∧ Below w.heap.size w w' := by
 have hp16 := pow16 (h := h) (by omega) (by omega)
 have hml := mleaves_len seed h.toNat
 have hpb := printT_bd h (root_len (mleaves_all seed h.toNat))
 refine enter2 _ Tryz.func20 rfl Tryz.ntmps20 Tryz.results20 rfl ?_
 have S0 := St.start w hH
 refine Wr (Ah S0 fun b1 w2 S3 => ?_)
 refine Ac S3 fun b4 w5 S6 => ?_
 refine Pv (T_nil (W_seq (Wr ?_)))
 refine Pv ?_
 refine Cs g_aumbry_mss_may ((mssMay_ok S6.le h).mono ?_)
 rintro e w8 ⟨rfl, hB7⟩
 have S9 := S6.call hB7
 refine ⟨_, rfl, trivial, ?_⟩
 refine Pv (T_nil ?_)
 refine W_bool 8 false rfl (may_is hm) (W_cond_false rfl (W_skip (Wr (Pv ?_))))
 refine Ai (hl := by exact hVs hs) 1 S9 ?_
 refine Pv ?_
 refine Cs g_aumbry_mss_Leaves ((leaves_ok S9.le hT h hs (by omega)).mono ?_)
 rintro e w15 ⟨a10, c11, hc12, rfl, ho13, hB14⟩
 have S16 := S9.own hB14 ho13
 refine ⟨_, rfl, trivial, ?_⟩
 obtain ⟨G18, hl19, S17, r20⟩ := S16.stillRow 0 rfl
 have r21 := RdH.mk (mleaves_all _ _) (by decide) r20
 refine Cs g_aumbry_tree_Root ((root_ok S17.le (hT.mono hl19) r21 (by omega)).mono ?_)
 rintro e w23 ⟨rfl, hB22⟩
 have S24 := S17.call hB22
 refine ⟨_, rfl, trivial, ?_⟩
 refine Cs g_aumbry_mss_printed ((printT_ok S24.le (hT.mono hl19) h (by omega) (root_len r21.1)).mono ?_)
 rintro e w30 ⟨a25, c26, hc27, rfl, ho28, hB29⟩
 have S31 := S24.own hB29 ho28
 refine ⟨_, rfl, trivial, ?_⟩
 obtain ⟨G33, hl34, S32, r35⟩ := S31.stillRow 0 rfl
 refine Cs g_aumbry_sha_Sum ((sumN_ok S32.le r35 (by omega)).mono ?_)
 rintro e w37 ⟨rfl, hB36⟩
 have S38 := S32.call hB36
 refine ⟨_, rfl, trivial, ?_⟩
 refine T_re (v' := hV (mprint seed h)) rfl (Ag (hl := by exact hVs (mprint_len _ _)) (hl2 := by exact hVs (mprint_len _ _)) (h1 := by exact one_hA _) 0 S38 fun w39 S40 => ?_)
 refine Pv (T_nil (W_ret ?_))
 refine ⟨_, ⟨_, _, _, rfl, rfl, run_loadVarA rfl rfl (hVs (mprint_len _ _)) (S40.cells 0 rfl), ⟨_, _, rfl, rfl, rfl⟩⟩, ?_⟩
 exact ⟨rfl, S40.below⟩


theorem mssPrintR_ok {H : Hp} {w : World} (hH : H.le (hw w)) (h : Int) {seed : List UInt8} (hs : seed.length = 16) (hm : 0 ≤ h ∧ h ≤ 4) :
  Calls Tryz.prog 11 #[hV seed, .int .i64 h] w fun e w' => e = .returned (hV (mprint seed h)) ∧ Below w.heap.size w w' := by
 have hp16 := pow16 (h := h) (by omega) (by omega)
 have hml := mleaves_len seed h.toNat
 have hpb := printT_bd h (root_len (mleaves_all seed h.toNat))
 refine enter2 _ Tryz.func11 rfl Tryz.ntmps11 Tryz.results11 rfl ?_
 have S0 := St.start w hH
 refine Wr (Ah S0 fun b1 w2 S3 => ?_)
 refine Ac S3 fun b4 w5 S6 => (Nr ?_)
 refine Pv ?_
 refine Ai (hl := by exact hVs hs) 1 S6 ?_
 refine Pv ?_
 refine Cs g_aumbry_aumbryref07_Leaves ((mssLeavesR_ok S6.le h hs (by omega)).mono ?_)
 rintro e w12 ⟨a7, c8, hc9, rfl, ho10, hB11⟩
 have S13 := S6.own hB11 ho10
 refine ⟨_, rfl, trivial, ?_⟩
 obtain ⟨G15, hl16, S14, r17⟩ := S13.stillRow 0 rfl
 have r18 := RdH.mk (mleaves_all _ _) (by decide) r17
 refine Cs g_aumbry_aumbryref07_Root ((rootR_ok S14.le r18 (by omega)).mono ?_)
 rintro e w20 ⟨rfl, hB19⟩
 have S21 := S14.call hB19
 refine ⟨_, rfl, trivial, ?_⟩
 refine Cs g_aumbry_aumbryref07_printText ((printTR_ok S21.le h (by omega) (root_len r18.1)).mono ?_)
 rintro e w27 ⟨a22, c23, hc24, rfl, ho25, hB26⟩
 have S28 := S21.own hB26 ho25
 refine ⟨_, rfl, trivial, ?_⟩
 obtain ⟨G30, hl31, S29, r32⟩ := S28.stillRow 0 rfl
 refine Cs g_aumbry_aumbryref01_Sum ((sumR_ok S29.le r32 (by omega)).mono ?_)
 rintro e w34 ⟨rfl, hB33⟩
 have S35 := S29.call hB33
 refine ⟨_, rfl, trivial, ?_⟩
 refine T_re (v' := hV (mprint seed h)) rfl (Ag (hl := by exact hVs (mprint_len _ _)) (hl2 := by exact hVs (mprint_len _ _)) (h1 := by exact one_hA _) 0 S35 fun w36 S37 => (T_nil (W_ret ?_)))
 refine ⟨_, ⟨_, _, _, rfl, rfl, run_loadVarA rfl rfl (hVs (mprint_len _ _)) (S37.cells 0 rfl), rfl⟩, ?_⟩
 exact ⟨rfl, S37.below⟩






theorem mssSignR_ok {H : Hp} {w : World} (hH : H.le (hw w)) (h leaf : Int) {seed : List UInt8} (hs : seed.length = 16) {m : List UInt8} {aa3 : Option Addr} {nn3 cc3 : Nat} (hm3 : Rd H (.slice aa3 nn3 cc3) nn3 1 (m.map bV)) (hm : 0 ≤ h ∧ h ≤ 4) (hr : 0 ≤ leaf ∧ leaf < ((2 ^ h.toNat : Nat) : Int)) (hml : m.length < 1000) :
  Calls Tryz.prog 7 #[hV seed, .int .i64 h, .int .i64 leaf, .slice aa3 nn3 cc3] w fun e w' => ∃ a1 c1 a2 c2, e = .returned (.agg #[.int .i64 h, .int .i64 leaf, .slice a1 67 c1, .slice a2 (lg (mleaves seed h.toNat).length) c2]) ∧ RdH (F.ext H w.heap.size w') (.slice a1 67 c1) 32 (Go.Au.sign seed leaf m 67) ∧ RdH (F.ext H w.heap.size w') (.slice a2 (lg (mleaves seed h.toNat).length) c2) 32 (Go.Au.beside (rowP (mleaves seed h.toNat)) leaf.toNat (lg (mleaves seed h.toNat).length)) ∧ Below w.heap.size w w' := by
 obtain rfl : nn3 = m.length := hm3.lenB
 have hm3cap : m.length ≤ cc3 := hm3.capOf
 have hp16 := pow16 (h := h) (by omega) (by omega)
 have hll := mleaves_len seed h.toNat
 refine enter4 _ Tryz.func7 rfl Tryz.ntmps7 Tryz.results7 rfl ?_
 have S0 := St.start w hH
 refine Wr (Ah S0 fun b1 w2 S3 => ?_)
 refine Ac S3 fun b4 w5 S6 => (T_nil (W_seq ?_))
 obtain ⟨G8, hl9, S7, r10⟩ := S6.stillBlk 1 rfl
 refine W_plan (planF Tryz.prog G8 [16]) rfl (by kernel_rfl) S7.le ?_
 have S11 := S7.drew
 refine P2 ?_
 refine T_loadGA _ S11 (still_cells r10) rfl rfl rfl rfl rfl rfl rfl rfl (hVs hs) (P2 ?_)
 refine Cs g_aumbry_aumbryref07_SignOne ((signR_ok S11.le leaf hs (by omega) (hm3.mono hl9) (by omega)).mono ?_)
 rintro e w17 ⟨a12, c13, hc14, rfl, ho15, hB16⟩
 have S18 := S11.own hB16 ho15
 refine ⟨_, rfl, (((Hp.le.refl _)).trans S18.le), ?_⟩
 refine Pv ?_
 refine T_loadGAP _ (fun _ h => h) (still_cells r10) rfl rfl rfl rfl rfl rfl rfl rfl (hVs hs) (Pv ?_)
 refine Cs g_aumbry_aumbryref07_Leaves ((mssLeavesR_ok S18.le h hs (by omega)).mono ?_)
 rintro e w24 ⟨a19, c20, hc21, rfl, ho22, hB23⟩
 have S25 := S18.own hB23 ho22
 refine ⟨_, rfl, (((Hp.le.refl _)).trans S25.le), ?_⟩
 obtain ⟨G27, hl28, S26, r29⟩ := S25.stillRow 0 rfl
 have r30 := RdH.mk (mleaves_all _ _) (by decide) r29
 refine Cs g_aumbry_aumbryref07_Proof ((proofR_ok S26.le leaf r30 (by omega) (by omega)).mono ?_)
 rintro e w36 ⟨a31, c32, hc33, rfl, ho34, hB35⟩
 have S37 := S26.own hB35 ho34
 refine ⟨_, rfl, ((hl28).trans S37.le), ?_⟩
 obtain ⟨G39, hl40, S38, r41⟩ := S37.stillRow 1 rfl
 have r42 := RdH.mk (sign_all _ _ _ _) (by decide) r41
 obtain ⟨G44, hl45, S43, r46⟩ := S38.stillRow 0 rfl
 have r47 := RdH.mk (beside_all r30.1 (by omega) (Nat.le_refl _)) (by decide) r46
 refine T_buildS (cells := #[.int .i64 h, .int .i64 leaf, .slice a12 67 c13, .slice a31 (lg (mleaves seed h.toNat).length) c32]) rfl rfl rfl rfl rfl rfl rfl rfl rfl rfl (Ag (hC := fun _ h => ((hl28.trans (hl40.trans hl45))).trans h) (hl := by first | rfl | simp [hVs, *]) (hl2 := by first | rfl | simp [hVs, *]) (h1 := by exact one_all rfl) 0 S43 fun w48 S49 => (T_nil (W_ret ?_)))
 refine ⟨_, ⟨_, _, _, rfl, rfl, run_loadVarA rfl rfl (by first | rfl | simp [hVs, *]) (S49.cells 0 rfl), rfl⟩, ?_⟩
 exact ⟨_, _, _, _, rfl, ((r42.mono hl45)).mono S49.fin, (r47).mono S49.fin, S49.below⟩




theorem mclimb_a {H : Hp} {w : World} (hH : H.le (hw w)) (hT : Tabs H) (sh sl : Int) {v p : List (List UInt8)} {a1 a2 : Option Addr} {n1 n2 c1 c2 : Nat} (h1 : RdH H (.slice a1 n1 c1) 32 v) (h2 : RdH H (.slice a2 n2 c2) 32 p) {m : List UInt8} {aa0 : Option Addr} {nn0 cc0 : Nat} (hv : Rd H (.slice aa0 nn0 cc0) nn0 1 (m.map bV)) (hml : m.length < 1000) (hm : ¬ (0 ≤ sh ∧ sh ≤ 4)) :
  Calls Tryz.prog 25 #[.slice aa0 nn0 cc0, .agg #[.int .i64 sh, .int .i64 sl, .slice a1 n1 c1, .slice a2 n2 c2]] w fun e w' => e = .returned (.tuple #[hV (List.replicate 32 0), .bool false]) ∧ Below w.heap.size w w' := by
 obtain rfl : nn0 = m.length := hv.lenB
 have hvcap : m.length ≤ cc0 := hv.capOf
 obtain rfl : n1 = v.length := h1.len
 obtain rfl : n2 = p.length := h2.len
 refine enter2 _ Tryz.func25 rfl Tryz.ntmps25 Tryz.results25 rfl ?_
 have S0 := St.start w hH
 refine Wr (Ah S0 fun b1 w2 S3 => ?_)
 refine Ac S3 fun b4 w5 S6 => ?_
 refine Pv (T_nil (W_seq (Wr ?_)))
 refine Fl 0 ?_
 refine Aj 1 0 S6 rfl ?_
 refine Cs g_aumbry_mss_may ((mssMay_ok S6.le sh).mono ?_)
 rintro e w8 ⟨rfl, hB7⟩
 have S9 := S6.call hB7
 refine ⟨_, rfl, trivial, ?_⟩
 refine Pv (T_nil ?_)
 refine W_bool 11 true rfl (may_not hm) (W_cond_true rfl (Wr (T_buildA (cells := (hV (List.replicate 32 0)).cells) rfl rfl rfl rfl rfl rfl rfl rfl rfl rfl (Ag (hl := by exact hVs List.length_replicate) (hl2 := by exact hVs List.length_replicate) (h1 := by exact one_hA _) 0 S9 fun w10 S11 => ?_))))
 refine Pv (T_nil (W_ret ?_))
 refine ⟨_, ⟨_, _, _, rfl, rfl, run_loadVarA rfl rfl (hVs List.length_replicate) (S11.cells 0 rfl), ⟨_, _, rfl, rfl, rfl⟩⟩, ?_⟩
 exact ⟨rfl, S11.below⟩


theorem mclimb_b {H : Hp} {w : World} (hH : H.le (hw w)) (hT : Tabs H) (sh sl : Int) {v p : List (List UInt8)} {a1 a2 : Option Addr} {n1 n2 c1 c2 : Nat} (h1 : RdH H (.slice a1 n1 c1) 32 v) (h2 : RdH H (.slice a2 n2 c2) 32 p) {m : List UInt8} {aa0 : Option Addr} {nn0 cc0 : Nat} (hv : Rd H (.slice aa0 nn0 cc0) nn0 1 (m.map bV)) (hml : m.length < 1000) (hm : 0 ≤ sh ∧ sh ≤ 4) (h67 : ¬ v.length = 67) :
  Calls Tryz.prog 25 #[.slice aa0 nn0 cc0, .agg #[.int .i64 sh, .int .i64 sl, .slice a1 n1 c1, .slice a2 n2 c2]] w fun e w' => e = .returned (.tuple #[hV (List.replicate 32 0), .bool false]) ∧ Below w.heap.size w w' := by
 obtain rfl : nn0 = m.length := hv.lenB
 have hvcap : m.length ≤ cc0 := hv.capOf
 obtain rfl : n1 = v.length := h1.len
 obtain rfl : n2 = p.length := h2.len
 refine enter2 _ Tryz.func25 rfl Tryz.ntmps25 Tryz.results25 rfl ?_
 have S0 := St.start w hH
 refine Wr (Ah S0 fun b1 w2 S3 => ?_)
 refine Ac S3 fun b4 w5 S6 => ?_
 refine Pv (T_nil (W_seq (Wr ?_)))
 refine Fl 0 ?_
 refine Aj 1 0 S6 rfl ?_
 refine Cs g_aumbry_mss_may ((mssMay_ok S6.le sh).mono ?_)
 rintro e w8 ⟨rfl, hB7⟩
 have S9 := S6.call hB7
 refine ⟨_, rfl, trivial, ?_⟩
 refine Pv (T_nil ?_)
 refine W_bool 11 false rfl (may_is hm) (W_cond_false rfl (W_skip (Wr (Pv ?_))))
 refine Fl 2 ?_
 refine Aj 1 2 S9 rfl ?_
 refine Cs g_aumbry_wots_Recover ((recover_ok_no S9.le hT hv h1 (by omega) (by omega)).mono ?_)
 rintro e w11 ⟨rfl, hB10⟩
 have S12 := S9.call hB10
 refine ⟨_, rfl, trivial, ?_⟩
 refine P3 ?_
 refine Ac S12 fun b13 w14 S15 => ?_
 refine Ag (hl := by exact hVs List.length_replicate) (hl2 := by exact hVs List.length_replicate) (h1 := by exact one_hA _) 0 S15 fun w16 S17 => ?_
 refine Pv (T_nil (W_seq (Wr ?_)))
 refine P2 (T_nil ?_)
 refine W_cond_true rfl (Wr (T_buildA (cells := (hV (List.replicate 32 0)).cells) rfl rfl rfl rfl rfl rfl rfl rfl rfl rfl (Ag (hl := by exact hVs List.length_replicate) (hl2 := by exact hVs List.length_replicate) (h1 := by exact one_hA _) 1 S17 fun w18 S19 => ?_)))
 refine Pv (T_nil (W_ret ?_))
 refine ⟨_, ⟨_, _, _, rfl, rfl, run_loadVarA rfl rfl (hVs List.length_replicate) (S19.cells 1 rfl), ⟨_, _, rfl, rfl, rfl⟩⟩, ?_⟩
 exact ⟨rfl, S19.below⟩


theorem mclimb_c {H : Hp} {w : World} (hH : H.le (hw w)) (hT : Tabs H) (sh sl : Int) {v p : List (List UInt8)} {a1 a2 : Option Addr} {n1 n2 c1 c2 : Nat} (h1 : RdH H (.slice a1 n1 c1) 32 v) (h2 : RdH H (.slice a2 n2 c2) 32 p) {m : List UInt8} {aa0 : Option Addr} {nn0 cc0 : Nat} (hv : Rd H (.slice aa0 nn0 cc0) nn0 1 (m.map bV)) (hml : m.length < 1000) (hm : 0 ≤ sh ∧ sh ≤ 4) (h67 : v.length = 67) :
  Calls Tryz.prog 25 #[.slice aa0 nn0 cc0, .agg #[.int .i64 sh, .int .i64 sl, .slice a1 n1 c1, .slice a2 n2 c2]] w fun e w' => e = .returned (.tuple #[hV (climbH ((2 ^ sh.toNat : Nat) : Int) sl (pubH (ends m v 67)) p), .bool (okW ((2 ^ sh.toNat : Nat) : Int) sl p.length)]) ∧ Below w.heap.size w w' := by
 obtain rfl : nn0 = m.length := hv.lenB
 have hvcap : m.length ≤ cc0 := hv.capOf
 obtain rfl : n1 = v.length := h1.len
 obtain rfl : n2 = p.length := h2.len
 have hp16 := pow16 (h := sh) (by omega) (by omega)
 refine enter2 _ Tryz.func25 rfl Tryz.ntmps25 Tryz.results25 rfl ?_
 have S0 := St.start w hH
 refine Wr (Ah S0 fun b1 w2 S3 => ?_)
 refine Ac S3 fun b4 w5 S6 => ?_
 refine Pv (T_nil (W_seq (Wr ?_)))
 refine Fl 0 ?_
 refine Aj 1 0 S6 rfl ?_
 refine Cs g_aumbry_mss_may ((mssMay_ok S6.le sh).mono ?_)
 rintro e w8 ⟨rfl, hB7⟩
 have S9 := S6.call hB7
 refine ⟨_, rfl, trivial, ?_⟩
 refine Pv (T_nil ?_)
 refine W_bool 11 false rfl (may_is hm) (W_cond_false rfl (W_skip (Wr (Pv ?_))))
 refine Fl 2 ?_
 refine Aj 1 2 S9 rfl ?_
 refine Cs g_aumbry_wots_Recover ((recover_ok S9.le hT hv h1 (by omega) (by omega)).mono ?_)
 rintro e w11 ⟨rfl, hB10⟩
 have S12 := S9.call hB10
 refine ⟨_, rfl, trivial, ?_⟩
 refine P3 ?_
 refine Ac S12 fun b13 w14 S15 => ?_
 refine Ag (hl := by exact hVs (pubH_len _)) (hl2 := by exact hVs (pubH_len _)) (h1 := by exact one_hA _) 0 S15 fun w16 S17 => ?_
 refine Pv (T_nil (W_seq (Wr ?_)))
 refine P2 (T_nil ?_)
 refine W_cond_false rfl (W_skip (W_seq (W_draw rfl (by kernel_rfl) ?_)))
 have S18 := S17.drew
 refine Fl 0 ?_
 refine Aj 2 0 S18 rfl ?_
 refine T_shl rfl rfl rfl rfl rfl rfl (by omega) ?_
 refine T_re (v' := .int .i64 ((2 ^ sh.toNat : Nat) : Int)) (congrArg (Value.int .i64) (shlI (by omega) (by omega))) ?_
 refine Fl 1 ?_
 refine Aj 2 1 S18 rfl ?_
 refine Ai (hl := by exact hVs (pubH_len _)) 0 S18 ?_
 refine Fl 3 ?_
 refine Aj 2 3 S18 rfl ?_
 refine Cs g_aumbry_tree_Climb ((climb_ok S18.le hT ((2 ^ sh.toNat : Nat) : Int) sl (pubH_len _) h2).mono ?_)
 rintro e w20 ⟨rfl, hB19⟩
 have S21 := S18.call hB19
 refine ⟨_, rfl, trivial, ?_⟩
 refine P2 ?_
 refine Ag (hl := by exact hVs (climbH_len _ _ (pubH_len _) _)) (hl2 := by exact hVs (climbH_len _ _ (pubH_len _) _)) (h1 := by exact one_hA _) 1 S21 fun w22 S23 => ?_
 refine Pv (T_nil (W_ret ?_))
 refine ⟨_, ⟨_, _, _, rfl, rfl, run_loadVarA rfl rfl (hVs (climbH_len _ _ (pubH_len _) _)) (S23.cells 1 rfl), ⟨_, _, rfl, rfl, rfl⟩⟩, ?_⟩
 exact ⟨rfl, S23.below⟩


theorem mclimb_ok {H : Hp} {w : World} (hH : H.le (hw w)) (hT : Tabs H) (sh sl : Int) {v p : List (List UInt8)} {a1 a2 : Option Addr} {n1 n2 c1 c2 : Nat} (h1 : RdH H (.slice a1 n1 c1) 32 v) (h2 : RdH H (.slice a2 n2 c2) 32 p) {m : List UInt8} {aa0 : Option Addr} {nn0 cc0 : Nat} (hv : Rd H (.slice aa0 nn0 cc0) nn0 1 (m.map bV)) (hml : m.length < 1000) :
  Calls Tryz.prog 25 #[.slice aa0 nn0 cc0, .agg #[.int .i64 sh, .int .i64 sl, .slice a1 n1 c1, .slice a2 n2 c2]] w fun e w' => e = .returned (.tuple #[hV (climbS m sh sl v p), .bool (okS sh sl v p)]) ∧ Below w.heap.size w w' := by
 by_cases hm : 0 ≤ sh ∧ sh ≤ 4
 ·by_cases h67 : v.length = 67
  ·rw [climbS_c hm h67, okS_c hm h67]; exact mclimb_c hH hT sh sl h1 h2 hv hml hm h67
  ·rw [climbS_b h67, okS_b h67]; exact mclimb_b hH hT sh sl h1 h2 hv hml hm h67
 ·rw [climbS_a hm, okS_a hm]; exact mclimb_a hH hT sh sl h1 h2 hv hml hm

theorem verify_ok {H : Hp} {w : World} (hH : H.le (hw w)) (hT : Tabs H) {fp : List UInt8} (hf : fp.length = 32) (sh sl : Int) {v p : List (List UInt8)} {a1 a2 : Option Addr} {n1 n2 c1 c2 : Nat} (h1 : RdH H (.slice a1 n1 c1) 32 v) (h2 : RdH H (.slice a2 n2 c2) 32 p) {m : List UInt8} {aa1 : Option Addr} {nn1 cc1 : Nat} (hv : Rd H (.slice aa1 nn1 cc1) nn1 1 (m.map bV)) (hml : m.length < 1000) :
  Calls Tryz.prog 22 #[hV fp, .slice aa1 nn1 cc1, .agg #[.int .i64 sh, .int .i64 sl, .slice a1 n1 c1, .slice a2 n2 c2]] w fun e w' => e = .returned (.bool (vrf fp m sh sl v p)) ∧ Below w.heap.size w w' := by
 obtain rfl : nn1 = m.length := hv.lenB
 have hvcap : m.length ≤ cc1 := hv.capOf
 obtain rfl : n1 = v.length := h1.len
 obtain rfl : n2 = p.length := h2.len
 refine enter3 _ Tryz.func22 rfl Tryz.ntmps22 Tryz.results22 rfl ?_
 have S0 := St.start w hH
 refine Wr (Ah S0 fun b1 w2 S3 => ?_)
 refine Ah S3 fun b4 w5 S6 => ?_
 refine Pv (Nr ?_)
 refine Pv ?_
 refine Ai (hl := by first | rfl | simp [hVs, *]) 0 S6 ?_
 refine Cs g_aumbry_mss_climb ((mclimb_ok S6.le hT sh sl h1 h2 hv (by omega)).mono ?_)
 rintro e w8 ⟨rfl, hB7⟩
 have S9 := S6.call hB7
 refine ⟨_, rfl, trivial, ?_⟩
 refine P3 ?_
 refine Ac S9 fun b10 w11 S12 => ?_
 refine Ag (hl := by exact hVs (climbS_len _ _ _ _ _)) (hl2 := by exact hVs (climbS_len _ _ _ _ _)) (h1 := by exact one_hA _) 0 S12 fun w13 S14 => ?_
 refine Pv (T_nil (W_seq ?_))
 obtain ⟨G16, hl17, S15, r18⟩ := S14.stillBlk 2 rfl
 refine W_plan (planF Tryz.prog G16 [22]) rfl (by kernel_rfl) S15.le ?_
 have S19 := S15.drew
 refine P2 ?_
 refine Tp 16 (fun h20' => ?_) (fun h20' => ?_)
 ·have h20 := h20'
  refine Ys ?_
  refine Fl 0 ?_
  refine Ys ?_
  refine Aj 1 0 S19 rfl ?_
  refine Ys ?_
  refine Ai (hl := by exact hVs (climbS_len _ _ _ _ _)) 0 S19 ?_
  refine Ys ?_
  have ho := okS_may h20
  have hpb := printT_bd sh (climbS_len m sh sl v p)
  refine Cs g_aumbry_mss_printed ((printT_ok S19.le (hT.mono hl17) sh (by omega) (climbS_len _ _ _ _ _)).mono ?_)
  rintro e w26 ⟨a21, c22, hc23, rfl, ho24, hB25⟩
  have S27 := S19.own hB25 ho24
  refine ⟨_, rfl, (((Hp.le.refl _)).trans S27.le), ?_⟩
  refine Ys ?_
  obtain ⟨G29, hl30, S28, r31⟩ := S27.stillRow 0 rfl
  refine Cs g_aumbry_sha_Sum ((sumN_ok S28.le r31 (by omega)).mono ?_)
  rintro e w33 ⟨rfl, hB32⟩
  have S34 := S28.call hB32
  refine ⟨_, rfl, ((hl30).trans S34.le), ?_⟩
  refine Ys ?_
  refine T_loadGAP _ (fun _ h => h) (still_cells r18) rfl rfl rfl rfl rfl rfl rfl rfl (hVs hf) (Ys ?_)
  refine T_eqB (xs := Go.Sha.sha (printT sh (climbS m sh sl v p))) (ys := fp) rfl rfl rfl rfl rfl rfl rfl rfl rfl rfl rfl (Go.Sha.sha_len _) hf (P2 (T_nil (W_ret ?_)))
  refine ⟨_, ⟨_, _, rfl, rfl, rfl⟩, ?_⟩
  exact ⟨by rw [vrf_yes h20]; rfl, S34.below⟩
 have h20 := h20'
 iterate 7 refine No ?_
 refine P2 (T_nil (W_ret ?_))
 refine ⟨_, ⟨_, _, rfl, rfl, rfl⟩, ?_⟩
 exact ⟨by rw [vrf_no h20]; rfl, S19.below⟩


theorem verifyR_b {H : Hp} {w : World} (hH : H.le (hw w)) {fp : List UInt8} (hf : fp.length = 32) (sh sl : Int) {v p : List (List UInt8)} {a1 a2 : Option Addr} {n1 n2 c1 c2 : Nat} (h1 : RdH H (.slice a1 n1 c1) 32 v) (h2 : RdH H (.slice a2 n2 c2) 32 p) {m : List UInt8} {aa1 : Option Addr} {nn1 cc1 : Nat} (hv : Rd H (.slice aa1 nn1 cc1) nn1 1 (m.map bV)) (hml : m.length < 1000) (h67 : ¬ v.length = 67) :
  Calls Tryz.prog 12 #[hV fp, .slice aa1 nn1 cc1, .agg #[.int .i64 sh, .int .i64 sl, .slice a1 n1 c1, .slice a2 n2 c2]] w fun e w' => e = .returned (.bool (vrf fp m sh sl v p)) ∧ Below w.heap.size w w' := by
 obtain rfl : nn1 = m.length := hv.lenB
 have hvcap : m.length ≤ cc1 := hv.capOf
 obtain rfl : n1 = v.length := h1.len
 obtain rfl : n2 = p.length := h2.len
 refine enter3 _ Tryz.func12 rfl Tryz.ntmps12 Tryz.results12 rfl ?_
 have S0 := St.start w hH
 refine Wr (Ah S0 fun b1 w2 S3 => ?_)
 refine Ah S3 fun b4 w5 S6 => ?_
 refine Pv (T_nil (W_seq (Wr ?_)))
 refine Fl 0 ?_
 refine Aj 0 0 S6 rfl ?_
 refine P2 ?_
 refine Td 13 (fun h7 => ?_) (fun h7 => ?_)
 ·iterate 3 refine No ?_
  refine Pv (T_nil ?_)
  refine W_cond_true rfl (Wr (Pv (T_nil (W_ret ?_))))
  refine ⟨_, ⟨_, _, rfl, rfl, rfl⟩, ?_⟩
  exact ⟨by rw [vrf_no (okS_b h67)]; rfl, S6.below⟩
 refine Ys ?_
 refine Fl 0 ?_
 refine Ys ?_
 refine Aj 0 0 S6 rfl ?_
 refine Ys ?_
 refine P2 (T_nil ?_)
 refine Aa (fun h8 => ?_) (fun h8 => ?_)
 ·refine Wr (Pv (T_nil (W_ret ?_)))
  refine ⟨_, ⟨_, _, rfl, rfl, rfl⟩, ?_⟩
  exact ⟨by rw [vrf_no (okS_b h67)]; rfl, S6.below⟩
 refine W_skip (Wr (Pv ?_))
 refine Fl 2 ?_
 refine Aj 0 2 S6 rfl ?_
 refine Cs g_aumbry_aumbryref07_Recover ((recoverR_ok_no S6.le hv h1 (by omega) (by omega)).mono ?_)
 rintro e w10 ⟨rfl, hB9⟩
 have S11 := S6.call hB9
 refine ⟨_, rfl, trivial, ?_⟩
 refine P3 ?_
 refine Ac S11 fun b12 w13 S14 => ?_
 refine Ag (hl := by exact hVs List.length_replicate) (hl2 := by exact hVs List.length_replicate) (h1 := by exact one_hA _) 0 S14 fun w15 S16 => ?_
 refine Pv (T_nil (W_seq (Wr ?_)))
 refine P2 (T_nil ?_)
 refine W_cond_true rfl (Wr (Pv (T_nil (W_ret ?_))))
 refine ⟨_, ⟨_, _, rfl, rfl, rfl⟩, ?_⟩
 exact ⟨by rw [vrf_no (okS_b h67)]; rfl, S16.below⟩


theorem verifyR_a {H : Hp} {w : World} (hH : H.le (hw w)) {fp : List UInt8} (hf : fp.length = 32) (sh sl : Int) {v p : List (List UInt8)} {a1 a2 : Option Addr} {n1 n2 c1 c2 : Nat} (h1 : RdH H (.slice a1 n1 c1) 32 v) (h2 : RdH H (.slice a2 n2 c2) 32 p) {m : List UInt8} {aa1 : Option Addr} {nn1 cc1 : Nat} (hv : Rd H (.slice aa1 nn1 cc1) nn1 1 (m.map bV)) (hml : m.length < 1000) (h67 : v.length = 67) :
  Calls Tryz.prog 12 #[hV fp, .slice aa1 nn1 cc1, .agg #[.int .i64 sh, .int .i64 sl, .slice a1 n1 c1, .slice a2 n2 c2]] w fun e w' => e = .returned (.bool (vrf fp m sh sl v p)) ∧ Below w.heap.size w w' := by
 obtain rfl : nn1 = m.length := hv.lenB
 have hvcap : m.length ≤ cc1 := hv.capOf
 obtain rfl : n1 = v.length := h1.len
 obtain rfl : n2 = p.length := h2.len
 refine enter3 _ Tryz.func12 rfl Tryz.ntmps12 Tryz.results12 rfl ?_
 have S0 := St.start w hH
 refine Wr (Ah S0 fun b1 w2 S3 => ?_)
 refine Ah S3 fun b4 w5 S6 => ?_
 refine Pv (T_nil (W_seq (Wr ?_)))
 refine Fl 0 ?_
 refine Aj 0 0 S6 rfl ?_
 refine P2 ?_
 refine Td 13 (fun h7 => ?_) (fun h7 => ?_)
 ·iterate 3 refine No ?_
  refine Pv (T_nil ?_)
  refine W_cond_true rfl (Wr (Pv (T_nil (W_ret ?_))))
  refine ⟨_, ⟨_, _, rfl, rfl, rfl⟩, ?_⟩
  exact ⟨by rw [vrf_no (okS_a (by omega))]; rfl, S6.below⟩
 refine Ys ?_
 refine Fl 0 ?_
 refine Ys ?_
 refine Aj 0 0 S6 rfl ?_
 refine Ys ?_
 refine P2 (T_nil ?_)
 refine Aa (fun h8 => ?_) (fun h8 => ?_)
 ·refine Wr (Pv (T_nil (W_ret ?_)))
  refine ⟨_, ⟨_, _, rfl, rfl, rfl⟩, ?_⟩
  exact ⟨by rw [vrf_no (okS_a (by omega))]; rfl, S6.below⟩
 refine W_skip (Wr (Pv ?_))
 refine Fl 2 ?_
 refine Aj 0 2 S6 rfl ?_
 refine Cs g_aumbry_aumbryref07_Recover ((recoverR_ok S6.le hv h1 (by omega) (by omega)).mono ?_)
 rintro e w10 ⟨rfl, hB9⟩
 have S11 := S6.call hB9
 refine ⟨_, rfl, trivial, ?_⟩
 refine P3 ?_
 refine Ac S11 fun b12 w13 S14 => ?_
 refine Ag (hl := by exact hVs (pubH_len _)) (hl2 := by exact hVs (pubH_len _)) (h1 := by exact one_hA _) 0 S14 fun w15 S16 => ?_
 refine Pv (T_nil (W_seq (Wr ?_)))
 refine P2 (T_nil ?_)
 refine W_cond_false rfl (W_skip (Wr ?_))
 have hp16 := pow16 (h := sh) (by omega) (by omega)
 refine Fl 0 ?_
 refine Aj 1 0 S16 rfl ?_
 refine Pv ?_
 refine T_re (v' := .int .u64 sh) (congrArg (Value.int .u64) (by rw [IntKind.wrap_u64]; omega)) ?_
 refine T_shl rfl rfl rfl rfl rfl rfl (by omega) ?_
 refine T_re (v' := .int .i64 ((2 ^ sh.toNat : Nat) : Int)) (congrArg (Value.int .i64) (shlI (by omega) (by omega))) ?_
 refine Fl 1 ?_
 refine Aj 1 1 S16 rfl ?_
 refine Ai (hl := by exact hVs (pubH_len _)) 0 S16 ?_
 refine Fl 3 ?_
 refine Aj 1 3 S16 rfl ?_
 refine Cs g_aumbry_aumbryref07_Climb ((climbR_ok S16.le ((2 ^ sh.toNat : Nat) : Int) sl (pubH_len _) h2).mono ?_)
 rintro e w18 ⟨rfl, hB17⟩
 have S19 := S16.call hB17
 refine ⟨_, rfl, trivial, ?_⟩
 refine P3 ?_
 refine Ac S19 fun b20 w21 S22 => ?_
 refine Ag (hl := by exact hVs (climbH_len _ _ (pubH_len _) _)) (hl2 := by exact hVs (climbH_len _ _ (pubH_len _) _)) (h1 := by exact one_hA _) 0 S22 fun w23 S24 => ?_
 refine Pv (T_nil (W_seq ?_))
 obtain ⟨G26, hl27, S25, r28⟩ := S24.stillBlk 3 rfl
 refine W_plan (planF Tryz.prog G26 [47]) rfl (by kernel_rfl) S25.le ?_
 have S29 := S25.drew
 refine P2 ?_
 refine Tp 41 (fun h30' => ?_) (fun h30' => ?_)
 ·have h30 := h30'
  refine Ys ?_
  refine Fl 0 ?_
  refine Ys ?_
  refine Aj 2 0 S29 rfl ?_
  refine Ys ?_
  refine Ai (hl := by exact hVs (climbH_len _ _ (pubH_len _) _)) 0 S29 ?_
  refine Ys ?_
  have hpb := printT_bd sh (climbH_len ((2 ^ sh.toNat : Nat) : Int) sl (pubH_len (ends m v 67)) p)
  refine Cs g_aumbry_aumbryref07_printText ((printTR_ok S29.le sh (by omega) (climbH_len _ _ (pubH_len _) _)).mono ?_)
  rintro e w36 ⟨a31, c32, hc33, rfl, ho34, hB35⟩
  have S37 := S29.own hB35 ho34
  refine ⟨_, rfl, (((Hp.le.refl _)).trans S37.le), ?_⟩
  refine Ys ?_
  obtain ⟨G39, hl40, S38, r41⟩ := S37.stillRow 0 rfl
  refine Cs g_aumbry_aumbryref01_Sum ((sumR_ok S38.le r41 (by omega)).mono ?_)
  rintro e w43 ⟨rfl, hB42⟩
  have S44 := S38.call hB42
  refine ⟨_, rfl, ((hl40).trans S44.le), ?_⟩
  refine Ys ?_
  refine T_loadGAP _ (fun _ h => h) (still_cells r28) rfl rfl rfl rfl rfl rfl rfl rfl (hVs hf) (Ys ?_)
  refine T_eqB (xs := Go.Sha.sha (printT sh (climbH ((2 ^ sh.toNat : Nat) : Int) sl (pubH (ends m v 67)) p))) (ys := fp) rfl rfl rfl rfl rfl rfl rfl rfl rfl rfl rfl (Go.Sha.sha_len _) hf (P2 (T_nil (W_ret ?_)))
  refine ⟨_, ⟨_, _, rfl, rfl, rfl⟩, ?_⟩
  have ho := okS_c (h := sh) (l := sl) (v := v) (p := p) ⟨by omega, by omega⟩ h67
  rw [h30] at ho
  exact ⟨by rw [vrf_yes ho, climbS_c ⟨by omega, by omega⟩ h67]; rfl, S44.below⟩
 have h30 := h30'
 iterate 7 refine No ?_
 refine P2 (T_nil (W_ret ?_))
 refine ⟨_, ⟨_, _, rfl, rfl, rfl⟩, ?_⟩
 exact ⟨by rw [vrf_no (by rw [okS_c ⟨by omega, by omega⟩ h67]; exact h30)]; rfl, S29.below⟩


theorem verifyR_ok {H : Hp} {w : World} (hH : H.le (hw w)) {fp : List UInt8} (hf : fp.length = 32) (sh sl : Int) {v p : List (List UInt8)} {a1 a2 : Option Addr} {n1 n2 c1 c2 : Nat} (h1 : RdH H (.slice a1 n1 c1) 32 v) (h2 : RdH H (.slice a2 n2 c2) 32 p) {m : List UInt8} {aa1 : Option Addr} {nn1 cc1 : Nat} (hv : Rd H (.slice aa1 nn1 cc1) nn1 1 (m.map bV)) (hml : m.length < 1000) :
  Calls Tryz.prog 12 #[hV fp, .slice aa1 nn1 cc1, .agg #[.int .i64 sh, .int .i64 sl, .slice a1 n1 c1, .slice a2 n2 c2]] w fun e w' => e = .returned (.bool (vrf fp m sh sl v p)) ∧ Below w.heap.size w w' := by
 by_cases h67 : v.length = 67
 ·exact verifyR_a hH hf sh sl h1 h2 hv hml h67
 ·exact verifyR_b hH hf sh sl h1 h2 hv hml h67
end Go.Proofs.YtfcejolipdcoaaaGreatDoor
