/- The statements of chapter 7, walked: rows of halves, heights. -/
import Derived.Test.YtadiakpbodlecaaDoorLaw07e
set_option linter.unusedVariables false
set_option linter.unusedSimpArgs false
set_option maxRecDepth 8192
namespace Go.Proofs.YtadiakpbodlecaaDoor
open Go Go.F Go.RowKit

/-- The row that the statement makes: given hashes, or the places' own numbers. -/
def frow (l : List (List UInt8)) (K : Nat) : Nat → List (List UInt8)
  | 0 => List.replicate K (List.replicate 32 0)
  | j + 1 => if j < l.length then ((frow l K j).set j (((frow l K j).getD j []).set 0 (UInt8.ofNat j))).set j (l.getD j []) else (frow l K j).set j (((frow l K j).getD j []).set 0 (UInt8.ofNat j))
theorem frow_yes {l : List (List UInt8)} {K j : Nat} (h : j < l.length) : ((frow l K j).set j (((frow l K j).getD j []).set 0 (UInt8.ofNat j))).set j (l.getD j []) = frow l K (j + 1) := (if_pos h).symm
theorem frow_no {l : List (List UInt8)} {K j : Nat} (h : ¬ j < l.length) : (frow l K j).set j (((frow l K j).getD j []).set 0 (UInt8.ofNat j)) = frow l K (j + 1) := (if_neg h).symm
theorem frow_len (l : List (List UInt8)) (K : Nat) : ∀ j, (frow l K j).length = K
  | 0 => by simp [frow]
  | j + 1 => by
    unfold frow
    split
    · rw [List.length_set, List.length_set]; exact frow_len l K j
    · rw [List.length_set]; exact frow_len l K j
theorem rows_law {X : List (List UInt8)} {q : Nat} (h : X.length = 2 ^ (1 + q)) : Go.Au.root X = Go.Au.node (Go.Au.root ((X.drop 0).take (2 ^ q - 0))) (Go.Au.root ((X.drop (2 ^ q)).take (2 ^ (1 + q) - 2 ^ q))) := by
  have e : 2 ^ (1 + q) = 2 * 2 ^ q := by rw [Nat.pow_add]
  rw [Nat.sub_zero, List.drop_zero, List.take_of_length_le (l := X.drop _) (by rw [List.length_drop]; omega)]
  exact Go.Au.root_halves (by rw [h, Nat.add_comm])
theorem pad_pow (m : Nat) : Go.Au.padN ((2 ^ m : Nat) : Int).toNat = 2 ^ m := by rw [Int.toNat_natCast]; unfold Go.Au.padN; rw [Go.Au.lg_pow]
theorem lg_pow1 (m : Nat) : Go.Au.lg (2 ^ m + 1) = m + 1 := by
  have h0 : 0 < 2 ^ m := Nat.pow_pos (by omega)
  have h1 : Go.Au.lg (2 ^ m + 1) ≤ m + 1 := Go.Au.lg_le (by rw [Nat.pow_succ]; omega)
  have h2 := Go.Au.lg_up (2 ^ m + 1)
  rcases Nat.lt_or_ge m (Go.Au.lg (2 ^ m + 1)) with h3 | h3
  · omega
  · have := Nat.pow_le_pow_right (show 0 < 2 by omega) h3
    omega
theorem pad_pow1 (m : Nat) : ((Go.Au.padN (((2 ^ m : Nat) : Int) + 1).toNat : Nat) : Int) = 2 * ((2 ^ m : Nat) : Int) := by
  rw [show ((((2 ^ m : Nat) : Int)) + 1).toNat = 2 ^ m + 1 by generalize 2 ^ m = x; omega]
  unfold Go.Au.padN
  rw [lg_pow1, Nat.pow_succ]
  generalize 2 ^ m = x; omega
theorem pad_pow2 {q : Nat} {z : Int} (h : z = ((2 ^ q : Nat) : Int) + 1) : ((Go.Au.padN z.toNat : Nat) : Int) = ((2 ^ (1 + q) : Nat) : Int) := by
  rw [h, show ((((2 ^ q : Nat) : Int)) + 1).toNat = 2 ^ q + 1 by generalize 2 ^ q = x; omega]
  unfold Go.Au.padN
  rw [lg_pow1, Nat.add_comm]
theorem pow_lt_lg {n q : Nat} (h : 2 ^ q < n) : q < Go.Au.lg n := by
  rcases Nat.lt_or_ge q (Go.Au.lg n) with h1 | h1
  · exact h1
  · have h2 := Nat.pow_le_pow_right (show 0 < 2 by omega) h1
    have h3 := Go.Au.lg_up n
    omega
/-- The leaves of single bytes. -/
def leaves (k : Nat) : List (List UInt8) := (List.range k).map fun j => Go.Au.leafH [UInt8.ofNat j]
theorem leaves_len (k : Nat) : (leaves k).length = k := by simp [leaves]
theorem leaves_snoc (k : Nat) : leaves k ++ [Go.Au.leafH [UInt8.ofNat k]] = leaves (k + 1) := by simp [leaves, List.range_succ]
theorem leaves32 {k : Nat} : ∀ b ∈ leaves k, b.length = 32 := by
  intro b hb; obtain ⟨j, _, rfl⟩ := List.mem_map.1 hb; exact Go.Au.leafH_len _
theorem own_way {l : List (List UInt8)} (h : ∀ b ∈ l, b.length = 32) {n i : Int} (hn : n = (l.length : Int)) (hl : l.length ≤ 256) (h0 : 0 ≤ i) (hi : i < (l.length : Int)) :
    Go.Au.okW n i (Go.Au.beside (Go.Au.rowP l) i.toNat (Go.Au.lg l.length)).length = true ∧ Go.Au.climbH n i (l.getD i.toNat []) (Go.Au.beside (Go.Au.rowP l) i.toNat (Go.Au.lg l.length)) = Go.Au.root l := by
  subst hn; exact ⟨Go.Au.okW_beside hl h0 hi _ _, Go.Au.climbH_root h hl h0 hi⟩
theorem check_own {a : Bool} {x y : List UInt8} (h1 : a = true) (h2 : x = y) : (a && decide (x = y)) = true := by rw [h1, decide_eq_true h2]; rfl
theorem treeRows_ok {H : Hp} {w : World} (hH : H.le (hw w)) (hT : Tabs H) {h : List (List UInt8)} {aa0 : Option Addr} {nn0 cc0 : Nat} (hx : RdH H (.slice aa0 nn0 cc0) 32 h) (n : Int) :
    Calls Tryd.prog 4 #[.slice aa0 nn0 cc0, .int .i64 n] w fun e w' => e = .returned (.bool true) ∧ Below w.heap.size w w' := by
  obtain rfl : nn0 = h.length := hx.len
  have hxcap : h.length ≤ cc0 := hx.2.capOf
  obtain ⟨q, hq⟩ : ∃ q : Nat, n % 4 = (q : Int) := ⟨(n % 4).toNat, by omega⟩
  have hK : 2 ^ (1 + q) ≤ 16 := (show 2 ^ (1 + q) ≤ 2 ^ 4 from Nat.pow_le_pow_right (by omega) (by omega))
  have hK2 : 2 ^ (1 + q) = 2 * 2 ^ q := by rw [Nat.pow_add]
  have hK0 : 0 < 2 ^ q := Nat.pow_pos (by omega)
  refine enter2 _ Tryd.func4 rfl Tryd.ntmps4 Tryd.results4 rfl ?_
  have S0 := St.start w hH
  refine W_seq ?_
  refine W_region ?_
  refine T_pev rfl rfl rfl rfl ?_
  refine T_nil ?_
  refine W_seq ?_
  refine W_region ?_
  refine T_pev rfl rfl rfl rfl ?_
  refine T_callS rfl rfl g_aumbry_aumbrykeep_Within rfl rfl rfl rfl ((withinN_ok S0.le n (4 : Int) (by omega)).mono ?_)
  rintro e w2 ⟨rfl, hB1⟩
  have S3 := S0.call hB1
  refine ⟨_, rfl, trivial, ?_⟩
  refine T_re (v' := .int .i64 ((q : Nat) : Int)) (congrArg (Value.int .i64) hq) ?_
  refine T_ari rfl rfl rfl rfl (by omega) ?_
  refine T_re (v' := .int .i64 (((1 + q) : Nat) : Int)) (congrArg (Value.int .i64) (by omega)) ?_
  refine T_pev rfl rfl rfl rfl ?_
  refine T_re (v' := .int .u64 (((1 + q) : Nat) : Int)) (congrArg (Value.int .u64) (by rw [IntKind.wrap_u64]; omega)) ?_
  refine T_shl rfl rfl rfl rfl rfl rfl (by omega) ?_
  refine T_re (v' := .int .i64 (((2 ^ (1 + q)) : Nat) : Int)) (congrArg (Value.int .i64) (shl1 (by omega))) ?_
  refine T_pev rfl rfl rfl rfl ?_
  refine T_nil ?_
  refine W_seq ?_
  refine W_region ?_
  refine T_pev rfl rfl rfl rfl ?_
  refine T_makeS (2 ^ (1 + q)) S3 (fun _ _ => trivial) rfl rfl rfl rfl rfl rfl rfl rfl rfl rfl (by omega) (by omega) (by show 32 * _ ≤ _; omega) (by unfold maxLen; omega) fun b4 w5 S6 => ?_
  have S7 := S6.toRow (size := 32) (m := (2 ^ (1 + q))) (xs := hcells (List.replicate (2 ^ (1 + q)) (List.replicate 32 0))) 0 rfl (made_h rfl (by decide)) (by rw [hcells_len (rep_all _ _), List.length_replicate]) (by unfold maxLen; omega)
  refine T_pev rfl rfl rfl rfl ?_
  refine T_nil ?_
  refine W_seq ?_
  refine W_seq ?_
  refine W_region ?_
  refine T_pev rfl rfl rfl rfl ?_
  refine T_pev rfl rfl rfl rfl ?_
  refine T_pev rfl rfl rfl rfl ?_
  refine T_nil ?_
  refine W_block ?_
  refine W_loop (fun M ρ w' => ∃ (j : Nat) (a10 : Option Addr) (c11 : Nat) (G8 : Hp), M = (2 ^ (1 + q)) - j ∧ j ≤ (2 ^ (1 + q)) ∧ ρ = [(0, .slice aa0 h.length cc0), (5, .int .i64 (((2 ^ (1 + q)) : Nat) : Int)), (6, .slice a10 (2 ^ (1 + q)) c11), (16, .int .i64 (((2 ^ (1 + q)) : Nat) : Int)), (17, .int .i64 (j : Int))] ∧ H.le G8 ∧ St w H G8 [.row 27 32 (.slice a10 (2 ^ (1 + q)) c11) (2 ^ (1 + q)) (hcells (frow h (2 ^ (1 + q)) j))] w' ∧ (∀ y ∈ frow h (2 ^ (1 + q)) j, y.length = 32) ∧ (2 ^ (1 + q)) ≤ c11)
    ((2 ^ (1 + q)) - 0) [(0, .slice aa0 h.length cc0), (5, .int .i64 (((2 ^ (1 + q)) : Nat) : Int)), (6, .slice (some ⟨b4, 0, none⟩) (2 ^ (1 + q)) (2 ^ (1 + q))), (16, .int .i64 (((2 ^ (1 + q)) : Nat) : Int)), (17, .int .i64 ((0 : Nat) : Int))] ⟨rfl, (congrArg (fun z => some (Value.int .i64 z)) (by omega)), rfl, (congrArg (fun z => some (Value.int .i64 z)) (by omega)), (congrArg (fun z => some (Value.int .i64 z)) (by omega)), trivial⟩ ⟨0, (some ⟨b4, 0, none⟩), (2 ^ (1 + q)), H, rfl, (by omega), rfl, Hp.le.refl _, S7, (rep_all _ _), (Nat.le_refl _)⟩ ?_
  rintro M ρ w14 ⟨j, a10, c11, G8, rfl, hp16, rfl, hl9, S15, hh13, hc12⟩
  have hfl := frow_len h (2 ^ (1 + q)) j
  refine W_seq ?_
  refine W_region ?_
  refine T_pev rfl rfl rfl rfl ?_
  refine T_nil ?_
  refine W_seq ?_
  refine W_cond_dec rfl (fun h17 => ?_) (fun h17 => ?_)
  · refine W_skip ?_
    refine W_seq ?_
    refine W_block ?_
    refine W_seq ?_
    refine W_region ?_
    refine T_pev rfl rfl rfl rfl ?_
    refine T_pev rfl rfl rfl rfl ?_
    refine T_nil ?_
    refine W_seq ?_
    refine W_region ?_
    refine T_pev rfl rfl rfl rfl ?_
    refine T_pev rfl rfl rfl rfl ?_
    refine T_pev rfl rfl rfl rfl ?_
    refine T_i2b j (by omega) rfl rfl rfl rfl rfl rfl rfl ?_
    obtain ⟨g18, rfl⟩ := S15.rowAt 0 rfl (by omega)
    refine T_idxm (j * 32) rfl rfl rfl rfl rfl rfl rfl rfl (by omega) (by show 0 + Int.toNat _ * 32 = _; omega) ?_
    refine T_idxAm (j * 32 + 0) rfl rfl rfl rfl rfl rfl rfl rfl (by omega) (by show _ + Int.toNat _ * 1 = _; omega) ?_
    refine T_storeRow 0 (hcells ((frow h (2 ^ (1 + q)) j).set j (((frow h (2 ^ (1 + q)) j).getD j []).set 0 (UInt8.ofNat j)))) S15 (fun _ _ => trivial) rfl rfl rfl rfl rfl rfl rfl rfl rfl (by show _ + 1 ≤ _ * 32; omega) one_bV1 (hcells_set1 hh13 (by omega) (by omega)) fun w19 S20 => ?_
    refine T_nil ?_
    refine W_seq ?_
    refine W_region ?_
    refine T_pev rfl rfl rfl rfl ?_
    refine T_pev rfl rfl rfl rfl ?_
    refine T_pev rfl rfl rfl rfl ?_
    refine T_pev rfl rfl rfl rfl ?_
    refine T_nil ?_
    refine W_cond_dec rfl (fun h21 => ?_) (fun h21 => ?_)
    · refine W_region ?_
      refine T_pev rfl rfl rfl rfl ?_
      refine T_pev rfl rfl rfl rfl ?_
      refine T_pev rfl rfl rfl rfl ?_
      refine T_pev rfl rfl rfl rfl ?_
      refine T_idxR j (hx.mono hl9).2 rfl rfl rfl rfl rfl rfl rfl rfl rfl (by omega) (by omega) fun b22 o23 hc24 => ?_
      have hc25 := cells_h (hx.mono hl9).1 j (by omega) hc24
      have hl26 := len_h (hx.mono hl9).1 j (by omega)
      refine T_loadGA _ S20 hc25 rfl rfl rfl rfl rfl rfl rfl rfl (hVs hl26) ?_
      refine T_idxm (j * 32) rfl rfl rfl rfl rfl rfl rfl rfl (by omega) (by show 0 + Int.toNat _ * 32 = _; omega) ?_
      refine T_storeRow 0 (hcells (((frow h (2 ^ (1 + q)) j).set j (((frow h (2 ^ (1 + q)) j).getD j []).set 0 (UInt8.ofNat j))).set j (h.getD j []))) S20 (fun _ _ => trivial) rfl rfl rfl rfl rfl rfl rfl rfl (hVs hl26) (by show _ + 32 ≤ _ * 32; omega) (one_hA _) (hcells_set (set_all (h := ((frow h (2 ^ (1 + q)) j).getD j []).set 0 (UInt8.ofNat j)) hh13 j (by rw [List.length_set]; exact len_h hh13 j (by omega))) (by rw [List.length_set]; omega) hl26) fun w27 S28 => ?_
      have hD29 : (((frow h (2 ^ (1 + q)) j).set j (((frow h (2 ^ (1 + q)) j).getD j []).set 0 (UInt8.ofNat j))).set j (h.getD j [])) = frow h (2 ^ (1 + q)) (j + 1) := (frow_yes (by omega))
      have hh30 := (set_all (h := h.getD j []) (set_all (h := ((frow h (2 ^ (1 + q)) j).getD j []).set 0 (UInt8.ofNat j)) hh13 j (by rw [List.length_set]; exact len_h hh13 j (by omega))) j hl26)
      rw [hD29] at S28 hh30
      refine T_nil ?_
      refine W_region ?_
      refine T_ari rfl rfl rfl rfl (by omega) ?_
      refine T_pev rfl rfl rfl rfl ?_
      refine T_nil ?_
      exact ⟨(2 ^ (1 + q)) - (j + 1), [(0, .slice aa0 h.length cc0), (5, .int .i64 (((2 ^ (1 + q)) : Nat) : Int)), (6, .slice (some ⟨g18, 0, none⟩) (2 ^ (1 + q)) c11), (16, .int .i64 (((2 ^ (1 + q)) : Nat) : Int)), (17, .int .i64 ((j + 1 : Nat) : Int))], by omega, ⟨rfl, (congrArg (fun z => some (Value.int .i64 z)) (by omega)), rfl, (congrArg (fun z => some (Value.int .i64 z)) (by omega)), (congrArg (fun z => some (Value.int .i64 z)) (by omega)), trivial⟩, j + 1, (some ⟨g18, 0, none⟩), c11, G8, rfl, (by omega), rfl, hl9, S28, hh30, hc12⟩
    refine W_skip ?_
    refine W_region ?_
    refine T_ari rfl rfl rfl rfl (by omega) ?_
    refine T_pev rfl rfl rfl rfl ?_
    refine T_nil ?_
    have hD31 : ((frow h (2 ^ (1 + q)) j).set j (((frow h (2 ^ (1 + q)) j).getD j []).set 0 (UInt8.ofNat j))) = frow h (2 ^ (1 + q)) (j + 1) := frow_no (by omega)
    have hh32 := (set_all (h := ((frow h (2 ^ (1 + q)) j).getD j []).set 0 (UInt8.ofNat j)) hh13 j (by rw [List.length_set]; exact len_h hh13 j (by omega)))
    rw [hD31] at S20 hh32
    exact ⟨(2 ^ (1 + q)) - (j + 1), [(0, .slice aa0 h.length cc0), (5, .int .i64 (((2 ^ (1 + q)) : Nat) : Int)), (6, .slice (some ⟨g18, 0, none⟩) (2 ^ (1 + q)) c11), (16, .int .i64 (((2 ^ (1 + q)) : Nat) : Int)), (17, .int .i64 ((j + 1 : Nat) : Int))], by omega, ⟨rfl, (congrArg (fun z => some (Value.int .i64 z)) (by omega)), rfl, (congrArg (fun z => some (Value.int .i64 z)) (by omega)), (congrArg (fun z => some (Value.int .i64 z)) (by omega)), trivial⟩, j + 1, (some ⟨g18, 0, none⟩), c11, G8, rfl, (by omega), rfl, hl9, S20, hh32, hc12⟩
  refine W_exit ?_
  refine W_seq ?_
  refine W_draw rfl (by kernel_rfl) ?_
  have S33 := S15.drew
  obtain rfl : j = (2 ^ (1 + q)) := by omega
  have hXl := frow_len h (2 ^ (1 + q)) (2 ^ (1 + q))
  refine T_pev rfl rfl rfl rfl ?_
  obtain ⟨G35, hl36, S34, r37⟩ := S33.stillRow 0 rfl
  have r38 := RdH.mk hh13 (by decide) r37
  refine T_callS rfl rfl g_aumbry_tree_Root rfl rfl rfl rfl ((root_ok S34.le (hT.mono (hl9.trans hl36)) r38 (by omega)).mono ?_)
  rintro e w40 ⟨rfl, hB39⟩
  have S41 := S34.call hB39
  refine ⟨_, rfl, trivial, ?_⟩
  refine T_pev rfl rfl rfl rfl ?_
  refine T_pev rfl rfl rfl rfl ?_
  refine T_quo rfl rfl rfl rfl rfl rfl (by omega) ?_
  refine T_re (v' := .int .i64 (((2 ^ q) : Nat) : Int)) (congrArg (Value.int .i64) (by omega)) ?_
  refine T_sliceR 0 (2 ^ q) r38.2 rfl rfl rfl rfl rfl rfl rfl rfl rfl rfl (bound_of (by omega)) rfl (by omega) (by omega) fun a42 c43 hc44 r45 => ?_
  have r46 := RdH.cut (lo := 0) r38.1 (by simp only [List.length_take, List.length_drop]; omega) r45
  refine T_callS rfl rfl g_aumbry_tree_Root rfl rfl rfl rfl ((root_ok S41.le (hT.mono (hl9.trans hl36)) r46 (by rw [List.length_take]; omega)).mono ?_)
  rintro e w48 ⟨rfl, hB47⟩
  have S49 := S41.call hB47
  refine ⟨_, rfl, trivial, ?_⟩
  refine T_pev rfl rfl rfl rfl ?_
  refine T_pev rfl rfl rfl rfl ?_
  refine T_quo rfl rfl rfl rfl rfl rfl (by omega) ?_
  refine T_re (v' := .int .i64 (((2 ^ q) : Nat) : Int)) (congrArg (Value.int .i64) (by omega)) ?_
  refine T_sliceR (2 ^ q) (2 ^ (1 + q)) r38.2 rfl rfl rfl rfl rfl rfl rfl rfl rfl rfl (by first | rfl | exact congrArg some (by omega)) (bound_of (by omega)) (by omega) (by omega) fun a50 c51 hc52 r53 => ?_
  have r54 := RdH.cut (lo := (2 ^ q)) r38.1 (by simp only [List.length_take, List.length_drop]; omega) r53
  refine T_callS rfl rfl g_aumbry_tree_Root rfl rfl rfl rfl ((root_ok S49.le (hT.mono (hl9.trans hl36)) r54 (by rw [List.length_take]; omega)).mono ?_)
  rintro e w56 ⟨rfl, hB55⟩
  have S57 := S49.call hB55
  refine ⟨_, rfl, trivial, ?_⟩
  refine T_callS rfl rfl g_aumbry_tree_Node rfl rfl rfl rfl ((node_ok S57.le (hT.mono (hl9.trans hl36)) (Go.Au.root_len r46.1) (Go.Au.root_len r54.1)).mono ?_)
  rintro e w59 ⟨rfl, hB58⟩
  have S60 := S57.call hB58
  refine ⟨_, rfl, trivial, ?_⟩
  refine T_eqB (xs := Go.Au.root (frow h (2 ^ (1 + q)) (2 ^ (1 + q)))) (ys := Go.Au.node (Go.Au.root (((frow h (2 ^ (1 + q)) (2 ^ (1 + q))).drop 0).take ((2 ^ q) - 0))) (Go.Au.root (((frow h (2 ^ (1 + q)) (2 ^ (1 + q))).drop (2 ^ q)).take ((2 ^ (1 + q)) - (2 ^ q))))) rfl rfl rfl rfl rfl rfl rfl rfl rfl rfl rfl (Go.Au.root_len r38.1) (Go.Au.node_len _ _) ?_
  refine T_pev rfl rfl rfl rfl ?_
  refine T_bool 52 true rfl (decide_eq_true (rows_law hXl)) ?_
  refine T_yes rfl rfl rfl ?_ rfl
  refine T_pev rfl rfl rfl rfl ?_
  refine T_yes rfl rfl rfl ?_ rfl
  refine T_callS rfl rfl g_aumbry_tree_Pad rfl rfl rfl rfl ((pad_ok S60.le (((2 ^ (1 + q)) : Nat) : Int) (by omega)).mono ?_)
  rintro e w62 ⟨rfl, hB61⟩
  have S63 := S60.call hB61
  refine ⟨_, rfl, trivial, ?_⟩
  refine T_yes rfl rfl rfl ?_ rfl
  refine T_pev rfl rfl rfl rfl ?_
  refine T_yes rfl rfl rfl ?_ rfl
  refine T_pev rfl rfl rfl rfl ?_
  refine T_pev rfl rfl rfl rfl ?_
  refine T_pev rfl rfl rfl rfl ?_
  refine T_bool 58 true rfl (decide_eq_true (congrArg (fun z : Nat => (z : Int)) (pad_pow _))) ?_
  refine T_yes rfl rfl rfl ?_ rfl
  refine T_pev rfl rfl rfl rfl ?_
  refine T_yes rfl rfl rfl ?_ rfl
  refine T_ari rfl rfl rfl rfl (by omega) ?_
  refine T_yes rfl rfl rfl ?_ rfl
  refine T_callS rfl rfl g_aumbry_tree_Pad rfl rfl rfl rfl ((pad_ok S63.le ((((2 ^ (1 + q)) : Nat) : Int) + (1 : Int)) (by omega)).mono ?_)
  rintro e w65 ⟨rfl, hB64⟩
  have S66 := S63.call hB64
  refine ⟨_, rfl, trivial, ?_⟩
  refine T_yes rfl rfl rfl ?_ rfl
  refine T_pev rfl rfl rfl rfl ?_
  refine T_yes rfl rfl rfl ?_ rfl
  refine T_ari rfl rfl rfl rfl (by omega) ?_
  refine T_yes rfl rfl rfl ?_ rfl
  refine T_pev rfl rfl rfl rfl ?_
  refine T_pev rfl rfl rfl rfl ?_
  refine T_pev rfl rfl rfl rfl ?_
  refine T_bool 66 true rfl (decide_eq_true (pad_pow1 _)) ?_
  refine T_yes rfl rfl rfl ?_ rfl
  refine T_pev rfl rfl rfl rfl ?_
  refine T_yes rfl rfl rfl ?_ rfl
  refine T_quo rfl rfl rfl rfl rfl rfl (by omega) ?_
  refine T_yes rfl rfl rfl ?_ rfl
  refine T_ari rfl rfl rfl rfl (by omega) ?_
  refine T_yes rfl rfl rfl ?_ rfl
  refine T_callS rfl rfl g_aumbry_tree_Pad rfl rfl rfl rfl ((pad_ok S66.le (((((2 ^ (1 + q)) : Nat) : Int) / (2 : Int)) + (1 : Int)) (by omega)).mono ?_)
  rintro e w68 ⟨rfl, hB67⟩
  have S69 := S66.call hB67
  refine ⟨_, rfl, trivial, ?_⟩
  refine T_yes rfl rfl rfl ?_ rfl
  refine T_pev rfl rfl rfl rfl ?_
  refine T_yes rfl rfl rfl ?_ rfl
  refine T_pev rfl rfl rfl rfl ?_
  refine T_pev rfl rfl rfl rfl ?_
  refine T_pev rfl rfl rfl rfl ?_
  refine T_bool 74 true rfl (decide_eq_true (pad_pow2 (by omega))) ?_
  refine T_yes rfl rfl rfl ?_ rfl
  refine T_callS rfl rfl g_aumbry_aumbrylaw07_wakes rfl rfl rfl rfl ((wakes_ok S69.le (hT.mono (hl9.trans hl36))).mono ?_)
  rintro e w71 ⟨rfl, hB70⟩
  have S72 := S69.call hB70
  refine ⟨_, rfl, trivial, ?_⟩
  refine T_pev rfl rfl rfl rfl ?_
  refine T_pev rfl rfl rfl rfl ?_
  refine T_nil ?_
  refine W_ret ?_
  refine ⟨_, ⟨_, _, rfl, rfl, rfl⟩, ?_⟩
  exact ⟨rfl, S72.below⟩


theorem treeHigh_ok {H : Hp} {w : World} (hH : H.le (hw w)) (hT : Tabs H) (n i : Int) :
    Calls Tryd.prog 9 #[.int .i64 n, .int .i64 i] w fun e w' => e = .returned (.bool true) ∧ Below w.heap.size w w' := by
  obtain ⟨q, hq⟩ : ∃ q : Nat, n % 40 = (q : Int) := ⟨(n % 40).toNat, by omega⟩
  have hi1 := Int.emod_nonneg i (show (((1 + q) : Nat) : Int) ≠ 0 by omega)
  have hi2 := Int.emod_lt_of_pos i (show 0 < (((1 + q) : Nat) : Int) by omega)
  obtain ⟨z, hz⟩ : ∃ z : Nat, i % (((1 + q) : Nat) : Int) = (z : Int) := ⟨(i % (((1 + q) : Nat) : Int)).toNat, by omega⟩
  have hlgN := Go.Au.lg_le (n := 1 + q) (m := 6) (by omega)
  refine enter2 _ Tryd.func9 rfl Tryd.ntmps9 Tryd.results9 rfl ?_
  have S0 := St.start w hH
  refine W_seq ?_
  refine W_region ?_
  refine T_pev rfl rfl rfl rfl ?_
  refine T_nil ?_
  refine W_seq ?_
  refine W_region ?_
  refine T_pev rfl rfl rfl rfl ?_
  refine T_callS rfl rfl g_aumbry_aumbrykeep_Within rfl rfl rfl rfl ((withinN_ok S0.le n (40 : Int) (by omega)).mono ?_)
  rintro e w2 ⟨rfl, hB1⟩
  have S3 := S0.call hB1
  refine ⟨_, rfl, trivial, ?_⟩
  refine T_re (v' := .int .i64 ((q : Nat) : Int)) (congrArg (Value.int .i64) hq) ?_
  refine T_ari rfl rfl rfl rfl (by omega) ?_
  refine T_re (v' := .int .i64 (((1 + q) : Nat) : Int)) (congrArg (Value.int .i64) (by omega)) ?_
  refine T_pev rfl rfl rfl rfl ?_
  refine T_nil ?_
  refine W_seq ?_
  refine W_region ?_
  refine T_pev rfl rfl rfl rfl ?_
  refine T_pev rfl rfl rfl rfl ?_
  refine T_callS rfl rfl g_aumbry_aumbrykeep_Within rfl rfl rfl rfl ((withinN_ok S3.le i (((1 + q) : Nat) : Int) (by omega)).mono ?_)
  rintro e w5 ⟨rfl, hB4⟩
  have S6 := S3.call hB4
  refine ⟨_, rfl, trivial, ?_⟩
  refine T_re (v' := .int .i64 ((z : Nat) : Int)) (congrArg (Value.int .i64) hz) ?_
  refine T_pev rfl rfl rfl rfl ?_
  refine T_nil ?_
  refine W_seq ?_
  refine W_region ?_
  refine T_pev rfl rfl rfl rfl ?_
  refine T_nil ?_
  refine W_seq ?_
  refine W_seq ?_
  refine W_region ?_
  refine T_pev rfl rfl rfl rfl ?_
  refine T_nil ?_
  refine W_block ?_
  have S7 := S6.nilRow 27 32
  refine W_loop (fun M ρ w' => ∃ (k : Nat) (a10 : Option Addr) (c11 : Nat) (G8 : Hp), M = (1 + q) - k ∧ k ≤ (1 + q) ∧ ρ = [(0, .int .i64 (((1 + q) : Nat) : Int)), (1, .int .i64 ((z : Nat) : Int)), (5, .slice a10 k c11), (6, .int .i64 (k : Int))] ∧ H.le G8 ∧ St w H G8 [.row 27 32 (.slice a10 k c11) k (hcells (leaves k))] w' ∧ (∀ y ∈ leaves k, y.length = 32) ∧ k ≤ c11)
    ((1 + q) - 0) [(0, .int .i64 (((1 + q) : Nat) : Int)), (1, .int .i64 ((z : Nat) : Int)), (5, .slice none 0 0), (6, .int .i64 ((0 : Nat) : Int))] ⟨(congrArg (fun z => some (Value.int .i64 z)) (by omega)), (congrArg (fun z => some (Value.int .i64 z)) (by omega)), rfl, (congrArg (fun z => some (Value.int .i64 z)) (by omega)), trivial⟩ ⟨0, none, 0, H, rfl, (by omega), rfl, Hp.le.refl _, S7, (fun _ h => by cases h), (Nat.le_refl _)⟩ ?_
  rintro M ρ w14 ⟨k, a10, c11, G8, rfl, hp16, rfl, hl9, S15, hh13, hc12⟩
  refine W_seq ?_
  refine W_seq ?_
  refine W_region ?_
  refine T_pev rfl rfl rfl rfl ?_
  refine T_pev rfl rfl rfl rfl ?_
  refine T_pev rfl rfl rfl rfl ?_
  refine T_nil ?_
  refine W_cond_dec rfl (fun h17 => ?_) (fun h17 => ?_)
  · refine W_skip ?_
    refine W_seq ?_
    refine W_block ?_
    refine W_region ?_
    refine T_pev rfl rfl rfl rfl ?_
    refine T_pev rfl rfl rfl rfl ?_
    refine T_i2b k (by omega) rfl rfl rfl rfl rfl rfl rfl ?_
    refine T_litS ([(UInt8.ofNat k : UInt8)].map bV) rfl rfl rfl rfl rfl rfl rfl rfl rfl rfl rfl rfl rfl (by simp [Value.cells]; rfl) rfl fun a18 w19 hB20 ho21 => ?_
    have S22 := S15.own hB20 ho21
    refine ⟨trivial, ?_⟩
    obtain ⟨G24, hl25, S23, r26⟩ := S22.stillRow 0 rfl
    refine T_callS rfl rfl g_aumbry_tree_Leaf rfl rfl rfl rfl ((leaf_ok S23.le (hT.mono (hl9.trans hl25)) r26 (by simp)).mono ?_)
    rintro e w28 ⟨rfl, hB27⟩
    have S29 := S23.call hB27
    refine ⟨_, rfl, trivial, ?_⟩
    refine T_re (v' := hV (Go.Au.leafH [UInt8.ofNat k])) rfl ?_
    refine T_litS (hcells [Go.Au.leafH [UInt8.ofNat k]]) rfl rfl rfl rfl rfl rfl rfl rfl rfl rfl rfl rfl rfl (one_h (Go.Au.leafH_len _)) (by simp [hcells, hV, Value.cells]) fun a30 w31 hB32 ho33 => ?_
    have S34 := S29.own hB32 ho33
    refine ⟨trivial, ?_⟩
    have hD35 : (leaves k ++ [Go.Au.leafH [UInt8.ofNat k]]) = leaves (k + 1) := (leaves_snoc _)
    refine T_appendS 1 (k + 1) (hcells (leaves (k + 1))) S34 (fun _ _ => trivial) rfl rfl rfl rfl rfl rfl rfl rfl rfl rfl rfl rfl rfl rfl (S34.rd 0 rfl) (one_hcells _) (by first | rfl | (simp; done) | (simp; omega) | omega) (by rw [← hD35]; simp [hcells_append, hcells]) (by unfold maxLen; omega) (by show _ * 32 ≤ _; omega) fun a36 c37 w38 hc39 S40 => ?_
    have hh41 : ∀ y ∈ leaves (k + 1), y.length = 32 := by rw [← hD35]; exact (all_app hh13 (all_h1 (Go.Au.leafH_len _)))
    refine T_pev rfl rfl rfl rfl ?_
    refine T_nil ?_
    refine W_region ?_
    refine T_pev rfl rfl rfl rfl ?_
    refine T_ari rfl rfl rfl rfl (by omega) ?_
    refine T_pev rfl rfl rfl rfl ?_
    refine T_nil ?_
    have S42 := S40.drop 0
    exact ⟨(1 + q) - (k + 1), [(0, .int .i64 (((1 + q) : Nat) : Int)), (1, .int .i64 ((z : Nat) : Int)), (5, .slice a36 (k + 1) c37), (6, .int .i64 ((k + 1 : Nat) : Int))], by omega, ⟨(congrArg (fun z => some (Value.int .i64 z)) (by omega)), (congrArg (fun z => some (Value.int .i64 z)) (by omega)), rfl, (congrArg (fun z => some (Value.int .i64 z)) (by omega)), trivial⟩, k + 1, a36, c37, G24, rfl, (by omega), rfl, (hl9.trans hl25), S42, hh41, hc39⟩
  refine W_exit ?_
  refine W_seq ?_
  refine W_region ?_
  refine T_pev rfl rfl rfl rfl ?_
  refine T_nil ?_
  refine W_seq ?_
  refine W_block ?_
  obtain rfl : k = (1 + q) := by omega
  have hLl := leaves_len (1 + q)
  have hLg : Go.Au.lg (leaves (1 + q)).length = Go.Au.lg (1 + q) := by rw [hLl]
  obtain ⟨G44, hl45, S43, r46⟩ := S15.stillRow 0 rfl
  have r47 := RdH.mk hh13 (by decide) r46
  refine W_loop (fun M ρ w' => ∃ (u : Nat) (G48 : Hp), M = (Go.Au.lg (1 + q)) - u ∧ u ≤ (Go.Au.lg (1 + q)) ∧ ρ = [(0, .int .i64 (((1 + q) : Nat) : Int)), (1, .int .i64 ((z : Nat) : Int)), (5, .slice a10 (1 + q) c11), (7, .int .i64 (u : Int))] ∧ G44.le G48 ∧ St w H G48 [] w')
    ((Go.Au.lg (1 + q)) - 0) [(0, .int .i64 (((1 + q) : Nat) : Int)), (1, .int .i64 ((z : Nat) : Int)), (5, .slice a10 (1 + q) c11), (7, .int .i64 ((0 : Nat) : Int))] ⟨(congrArg (fun z => some (Value.int .i64 z)) (by omega)), (congrArg (fun z => some (Value.int .i64 z)) (by omega)), rfl, (congrArg (fun z => some (Value.int .i64 z)) (by omega)), trivial⟩ ⟨0, G44, rfl, (by exact Nat.zero_le _), rfl, Hp.le.refl _, S43⟩ ?_
  rintro M ρ w50 ⟨u, G48, rfl, hp52, rfl, hl49, S51⟩
  refine W_seq ?_
  refine W_seq ?_
  refine W_region ?_
  refine T_pev rfl rfl rfl rfl ?_
  refine T_pev rfl rfl rfl rfl ?_
  refine T_re (v' := .int .u64 ((u : Nat) : Int)) (congrArg (Value.int .u64) (by rw [IntKind.wrap_u64]; omega)) ?_
  refine T_shl rfl rfl rfl rfl rfl rfl (by omega) ?_
  refine T_re (v' := .int .i64 (((2 ^ u) : Nat) : Int)) (congrArg (Value.int .i64) (shl1 (by omega))) ?_
  refine T_pev rfl rfl rfl rfl ?_
  refine T_pev rfl rfl rfl rfl ?_
  refine T_nil ?_
  refine W_cond_dec rfl (fun h53 => ?_) (fun h53 => ?_)
  · refine W_skip ?_
    refine W_block ?_
    refine W_region ?_
    have hul := pow_lt_lg (n := (1 + q)) (q := u) (by omega)
    refine T_pev rfl rfl rfl rfl ?_
    refine T_ari rfl rfl rfl rfl (by omega) ?_
    refine T_pev rfl rfl rfl rfl ?_
    refine T_nil ?_
    exact ⟨(Go.Au.lg (1 + q)) - (u + 1), [(0, .int .i64 (((1 + q) : Nat) : Int)), (1, .int .i64 ((z : Nat) : Int)), (5, .slice a10 (1 + q) c11), (7, .int .i64 ((u + 1 : Nat) : Int))], by omega, ⟨(congrArg (fun z => some (Value.int .i64 z)) (by omega)), (congrArg (fun z => some (Value.int .i64 z)) (by omega)), rfl, (congrArg (fun z => some (Value.int .i64 z)) (by omega)), trivial⟩, u + 1, G48, rfl, (by omega), rfl, hl49, S51⟩
  refine W_exit ?_
  refine W_seq ?_
  refine W_region ?_
  obtain rfl : u = Go.Au.lg (1 + q) := Go.Au.lg_of (by omega) (by assumption)
  have hw1 := own_way (l := leaves (1 + q)) leaves32 (n := (((1 + q) : Nat) : Int)) (i := ((z : Nat) : Int)) (by omega) (by omega) (by omega) (by omega)
  have hw2 := own_way (l := leaves (1 + q)) leaves32 (n := (((1 + q) : Nat) : Int)) (i := ((q : Nat) : Int)) (by omega) (by omega) (by omega) (by omega)
  refine T_pev rfl rfl rfl rfl ?_
  refine T_callS rfl rfl g_aumbry_tree_Root rfl rfl rfl rfl ((root_ok S51.le (hT.mono (hl9.trans (hl45.trans hl49))) (r47.mono hl49) (by omega)).mono ?_)
  rintro e w55 ⟨rfl, hB54⟩
  have S56 := S51.call hB54
  refine ⟨_, rfl, trivial, ?_⟩
  refine T_allocS S56 (fun _ _ => trivial) rfl rfl rfl rfl rfl rfl rfl fun b57 w58 S59 => ?_
  refine T_storeFS 0 S59 (fun _ _ => trivial) rfl rfl rfl rfl rfl rfl rfl rfl rfl (hVs (Go.Au.root_len (r47.mono hl49).1)) (hVs (Go.Au.root_len (r47.mono hl49).1)) (one_hA _) fun w60 S61 => ?_
  refine T_nil ?_
  refine W_seq ?_
  refine W_region ?_
  refine T_pev rfl rfl rfl rfl ?_
  refine T_pev rfl rfl rfl rfl ?_
  refine T_callS rfl rfl g_aumbry_tree_Proof rfl rfl rfl rfl ((proof_ok S61.le (hT.mono (hl9.trans (hl45.trans hl49))) ((z : Nat) : Int) (r47.mono hl49) (by omega) (by omega)).mono ?_)
  rintro e w67 ⟨a62, c63, hc64, rfl, ho65, hB66⟩
  have S68 := S61.own hB66 ho65
  refine ⟨_, rfl, trivial, ?_⟩
  refine T_pev rfl rfl rfl rfl ?_
  refine T_pev rfl rfl rfl rfl ?_
  refine T_pev rfl rfl rfl rfl ?_
  refine T_pev rfl rfl rfl rfl ?_
  refine T_pev rfl rfl rfl rfl ?_
  refine T_nil ?_
  refine W_seq ?_
  refine W_region ?_
  refine T_pev rfl rfl rfl rfl ?_
  refine T_ari rfl rfl rfl rfl (by omega) ?_
  refine T_re (v' := .int .i64 ((q : Nat) : Int)) (congrArg (Value.int .i64) (by omega)) ?_
  refine T_pev rfl rfl rfl rfl ?_
  refine T_callS rfl rfl g_aumbry_tree_Proof rfl rfl rfl rfl ((proof_ok S68.le (hT.mono (hl9.trans (hl45.trans hl49))) ((q : Nat) : Int) (r47.mono hl49) (by omega) (by omega)).mono ?_)
  rintro e w74 ⟨a69, c70, hc71, rfl, ho72, hB73⟩
  have S75 := S68.own hB73 ho72
  refine ⟨_, rfl, trivial, ?_⟩
  refine T_pev rfl rfl rfl rfl ?_
  refine T_pev rfl rfl rfl rfl ?_
  refine T_pev rfl rfl rfl rfl ?_
  refine T_pev rfl rfl rfl rfl ?_
  refine T_pev rfl rfl rfl rfl ?_
  refine T_nil ?_
  refine W_seq ?_
  refine W_region ?_
  refine T_pev rfl rfl rfl rfl ?_
  refine T_pev rfl rfl rfl rfl ?_
  refine T_pev rfl rfl rfl rfl ?_
  refine T_pev rfl rfl rfl rfl ?_
  refine T_idxR z (r47.mono hl49).2 rfl rfl rfl rfl rfl rfl rfl rfl rfl (by omega) (by omega) fun b76 o77 hc78 => ?_
  have hc79 := cells_h (r47.mono hl49).1 z (by omega) hc78
  have hl80 := len_h (r47.mono hl49).1 z (by omega)
  refine T_loadGA _ S75 hc79 rfl rfl rfl rfl rfl rfl rfl rfl (hVs hl80) ?_
  refine T_pev rfl rfl rfl rfl ?_
  obtain ⟨G82, hl83, S81, r84⟩ := S75.stillRow 1 rfl
  have r85 := RdH.mk (Go.Au.beside_all (r47.mono hl49).1 (by omega) (Nat.le_refl _)) (by decide) r84
  refine T_callS rfl rfl g_aumbry_tree_Climb rfl rfl rfl rfl ((climb_ok S81.le (hT.mono (hl9.trans (hl45.trans (hl49.trans hl83)))) (((1 + q) : Nat) : Int) ((z : Nat) : Int) hl80 r85).mono ?_)
  rintro e w87 ⟨rfl, hB86⟩
  have S88 := S81.call hB86
  refine ⟨_, rfl, trivial, ?_⟩
  refine T_pev rfl rfl rfl rfl ?_
  refine T_pev rfl rfl rfl rfl ?_
  refine T_pev rfl rfl rfl rfl ?_
  refine T_allocS S88 (fun _ _ => trivial) rfl rfl rfl rfl rfl rfl rfl fun b89 w90 S91 => ?_
  refine T_storeFS 0 S91 (fun _ _ => trivial) rfl rfl rfl rfl rfl rfl rfl rfl rfl (hVs (Go.Au.climbH_len _ _ hl80 _)) (hVs (Go.Au.climbH_len _ _ hl80 _)) (one_hA _) fun w92 S93 => ?_
  refine T_pev rfl rfl rfl rfl ?_
  refine T_nil ?_
  refine W_seq ?_
  refine W_draw rfl (by kernel_rfl) ?_
  have S94 := S93.drew
  refine T_pev rfl rfl rfl rfl ?_
  refine T_pev rfl rfl rfl rfl ?_
  refine T_pev rfl rfl rfl rfl ?_
  refine T_bool 68 true rfl (decide_eq_true (by first | rfl | omega)) ?_
  refine T_yes rfl rfl rfl ?_ rfl
  refine T_pev rfl rfl rfl rfl ?_
  refine T_yes rfl rfl rfl ?_ rfl
  refine T_pev rfl rfl rfl rfl ?_
  refine T_pev rfl rfl rfl rfl ?_
  refine T_pev rfl rfl rfl rfl ?_
  refine T_bool 72 true rfl (decide_eq_true (by first | rfl | omega)) ?_
  refine T_yes rfl rfl rfl ?_ rfl
  refine T_pev rfl rfl rfl rfl ?_
  refine T_yes rfl rfl rfl ?_ rfl
  refine T_pev rfl rfl rfl rfl ?_
  refine T_yes rfl rfl rfl ?_ rfl
  refine T_pev rfl rfl rfl rfl ?_
  refine T_yes rfl rfl rfl ?_ rfl
  refine T_pev rfl rfl rfl rfl ?_
  refine T_pev rfl rfl rfl rfl ?_
  refine T_pev rfl rfl rfl rfl ?_
  refine T_bool 78 true rfl (decide_eq_true (by first | rfl | omega)) ?_
  refine T_yes rfl rfl rfl ?_ rfl
  refine T_pev rfl rfl rfl rfl ?_
  refine T_yes rfl rfl rfl ?_ rfl
  refine T_pev rfl rfl rfl rfl ?_
  refine T_yes rfl rfl rfl ?_ rfl
  refine T_pev rfl rfl rfl rfl ?_
  refine T_yes rfl rfl rfl ?_ rfl
  refine T_pev rfl rfl rfl rfl ?_
  refine T_pev rfl rfl rfl rfl ?_
  refine T_pev rfl rfl rfl rfl ?_
  refine T_bool 84 true rfl (decide_eq_true (by first | rfl | omega)) ?_
  refine T_yes rfl rfl rfl ?_ rfl
  refine T_pev rfl rfl rfl rfl ?_
  refine T_pev rfl rfl rfl rfl ?_
  refine T_pev rfl rfl rfl rfl ?_
  refine T_bool 87 true rfl hw1.1 ?_
  refine T_yes rfl rfl rfl ?_ rfl
  refine T_loadFS 0 S94 rfl rfl rfl rfl rfl rfl rfl rfl rfl (hVs (Go.Au.climbH_len _ _ hl80 _)) ?_
  refine T_yes rfl rfl rfl ?_ rfl
  refine T_loadFS 2 S94 rfl rfl rfl rfl rfl rfl rfl rfl rfl (hVs (Go.Au.root_len (r47.mono hl49).1)) ?_
  refine T_yes rfl rfl rfl ?_ rfl
  refine T_eqB (xs := Go.Au.climbH (((1 + q) : Nat) : Int) ((z : Nat) : Int) ((leaves (1 + q)).getD z []) (Go.Au.beside (Go.Au.rowP (leaves (1 + q))) ((z : Nat) : Int).toNat (Go.Au.lg (leaves (1 + q)).length))) (ys := Go.Au.root (leaves (1 + q))) rfl rfl rfl rfl rfl rfl rfl rfl rfl rfl rfl (Go.Au.climbH_len _ _ hl80 _) (Go.Au.root_len (r47.mono hl49).1) ?_
  refine T_pev rfl rfl rfl rfl ?_
  refine T_pev rfl rfl rfl rfl ?_
  refine T_bool 92 true rfl (decide_eq_true hw1.2) ?_
  refine T_yes rfl rfl rfl ?_ rfl
  refine T_loadFS 2 S94 rfl rfl rfl rfl rfl rfl rfl rfl rfl (hVs (Go.Au.root_len (r47.mono hl49).1)) ?_
  refine T_yes rfl rfl rfl ?_ rfl
  refine T_pev rfl rfl rfl rfl ?_
  refine T_yes rfl rfl rfl ?_ rfl
  refine T_pev rfl rfl rfl rfl ?_
  refine T_yes rfl rfl rfl ?_ rfl
  refine T_ari rfl rfl rfl rfl (by omega) ?_
  refine T_re (v' := .int .i64 ((q : Nat) : Int)) (congrArg (Value.int .i64) (by omega)) ?_
  refine T_yes rfl rfl rfl ?_ rfl
  refine T_pev rfl rfl rfl rfl ?_
  refine T_yes rfl rfl rfl ?_ rfl
  refine T_pev rfl rfl rfl rfl ?_
  refine T_yes rfl rfl rfl ?_ rfl
  refine T_ari rfl rfl rfl rfl (by omega) ?_
  refine T_re (v' := .int .i64 ((q : Nat) : Int)) (congrArg (Value.int .i64) (by omega)) ?_
  refine T_yes rfl rfl rfl ?_ rfl
  refine T_idxR q (r47.mono (hl49.trans hl83)).2 rfl rfl rfl rfl rfl rfl rfl rfl rfl (by omega) (by omega) fun b95 o96 hc97 => ?_
  have hc98 := cells_h (r47.mono (hl49.trans hl83)).1 q (by omega) hc97
  have hl99 := len_h (r47.mono (hl49.trans hl83)).1 q (by omega)
  refine T_yes rfl rfl rfl ?_ rfl
  refine T_loadGA _ S94 hc98 rfl rfl rfl rfl rfl rfl rfl rfl (hVs hl99) ?_
  refine T_yes rfl rfl rfl ?_ rfl
  refine T_pev rfl rfl rfl rfl ?_
  refine T_yes rfl rfl rfl ?_ rfl
  obtain ⟨G101, hl102, S100, r103⟩ := S94.stillRow 1 rfl
  have r104 := RdH.mk (Go.Au.beside_all (r47.mono hl49).1 (by omega) (Nat.le_refl _)) (by decide) r103
  refine T_callS rfl rfl g_aumbry_tree_Check rfl rfl rfl rfl ((check_ok S100.le (hT.mono (hl9.trans (hl45.trans (hl49.trans (hl83.trans hl102))))) (Go.Au.root_len (r47.mono hl49).1) (((1 + q) : Nat) : Int) ((q : Nat) : Int) hl99 r104).mono ?_)
  rintro e w106 ⟨rfl, hB105⟩
  have S107 := S100.call hB105
  refine ⟨_, rfl, trivial, ?_⟩
  refine T_pev rfl rfl rfl rfl ?_
  refine T_pev rfl rfl rfl rfl ?_
  refine T_bool 105 true rfl (check_own hw2.1 hw2.2) ?_
  refine T_yes rfl rfl rfl ?_ rfl
  refine T_pev rfl rfl rfl rfl ?_
  refine T_yes rfl rfl rfl ?_ rfl
  refine T_callS rfl rfl g_aumbry_tree_Pad rfl rfl rfl rfl ((pad_ok S107.le (((1 + q) : Nat) : Int) (by omega)).mono ?_)
  rintro e w109 ⟨rfl, hB108⟩
  have S110 := S107.call hB108
  refine ⟨_, rfl, trivial, ?_⟩
  refine T_yes rfl rfl rfl ?_ rfl
  refine T_pev rfl rfl rfl rfl ?_
  refine T_yes rfl rfl rfl ?_ rfl
  refine T_pev rfl rfl rfl rfl ?_
  refine T_re (v' := .int .u64 (((Go.Au.lg (1 + q)) : Nat) : Int)) (congrArg (Value.int .u64) (by rw [IntKind.wrap_u64]; omega)) ?_
  refine T_yes rfl rfl rfl ?_ rfl
  refine T_shl rfl rfl rfl rfl rfl rfl (by omega) ?_
  refine T_re (v' := .int .i64 (((2 ^ (Go.Au.lg (1 + q))) : Nat) : Int)) (congrArg (Value.int .i64) (shl1 (by omega))) ?_
  refine T_yes rfl rfl rfl ?_ rfl
  refine T_pev rfl rfl rfl rfl ?_
  refine T_pev rfl rfl rfl rfl ?_
  refine T_pev rfl rfl rfl rfl ?_
  refine T_bool 113 true rfl (decide_eq_true rfl) ?_
  refine T_yes rfl rfl rfl ?_ rfl
  refine T_callS rfl rfl g_aumbry_aumbrylaw07_wakes rfl rfl rfl rfl ((wakes_ok S110.le (hT.mono (hl9.trans (hl45.trans (hl49.trans (hl83.trans hl102)))))).mono ?_)
  rintro e w112 ⟨rfl, hB111⟩
  have S113 := S110.call hB111
  refine ⟨_, rfl, trivial, ?_⟩
  refine T_pev rfl rfl rfl rfl ?_
  refine T_pev rfl rfl rfl rfl ?_
  refine T_nil ?_
  refine W_ret ?_
  refine ⟨_, ⟨_, _, rfl, rfl, rfl⟩, ?_⟩
  exact ⟨rfl, S113.below⟩

end Go.Proofs.YtadiakpbodlecaaDoor
