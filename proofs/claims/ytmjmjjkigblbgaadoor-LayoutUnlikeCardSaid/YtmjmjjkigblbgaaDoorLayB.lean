/- Rows out of bytes, numbers out of rows. -/
import Derived.Test.YtmjmjjkigblbgaaDoorLayA
import Derived.Test.YtmjmjjkigblbgaaDoorAuDoor
set_option linter.unusedVariables false
set_option linter.unusedSimpArgs false
set_option maxRecDepth 8192
namespace Go.Proofs.YtmjmjjkigblbgaaDoor
open Go Go.F Go.RowKit
open Go.Au

theorem tk_none {H : Hp} {w w' : World} {n : Nat} {b : List UInt8} (h : ¬ NtAll n b) (hB : Below w.heap.size w w') :
  ∃ a c, Ending.returned (.tuple #[.slice none 0 0, .bool false]) = .returned (.tuple #[.slice a (ntAll n b).length c, .bool (decide (NtAll n b))]) ∧ RdL (F.ext H w.heap.size w') (.slice a (ntAll n b).length c) (ntAll n b) ∧ Below w.heap.size w w' := by
 rw [ntAll_no h, decide_eq_false h]
 exact ⟨none, 0, rfl, nilS _, hB⟩
theorem tk_some {H : Hp} {w w' : World} {n : Nat} {b : List UInt8} (h : NtAll n b) {a : Option Addr} {c : Nat} (r : RdL (F.ext H w.heap.size w') (.slice a n c) (ntRows n b)) (hB : Below w.heap.size w w') :
  ∃ a' c', Ending.returned (.tuple #[.slice a n c, .bool true]) = .returned (.tuple #[.slice a' (ntAll n b).length c', .bool (decide (NtAll n b))]) ∧ RdL (F.ext H w.heap.size w') (.slice a' (ntAll n b).length c') (ntAll n b) ∧ Below w.heap.size w w' := by
 rw [ntAll_yes h, decide_eq_true h, ntRows_len]
 exact ⟨a, c, rfl, r, hB⟩
theorem nm_none {H : Hp} {w w' : World} {l : List (List UInt8)} {m : List Int} (h : ¬ numOk l m m.length) (hB : Below w.heap.size w w') :
  ∃ a c, Ending.returned (.tuple #[.slice none 0 0, .bool false]) = .returned (.tuple #[.slice a (numA l m).length c, .bool (decide (numOk l m m.length))]) ∧ Rd (F.ext H w.heap.size w') (.slice a (numA l m).length c) (numA l m).length 1 ((numA l m).map iV) ∧ Below w.heap.size w w' := by
 rw [numA_no h, decide_eq_false h]
 exact ⟨none, 0, rfl, Rd.nil _ _, hB⟩
theorem nm_some {H : Hp} {w w' : World} {l : List (List UInt8)} {m : List Int} (h : numOk l m m.length) {a : Option Addr} {c : Nat} (r : Rd (F.ext H w.heap.size w') (.slice a m.length c) m.length 1 ((numL l m.length).map iV)) (hB : Below w.heap.size w w') :
  ∃ a' c', Ending.returned (.tuple #[.slice a m.length c, .bool true]) = .returned (.tuple #[.slice a' (numA l m).length c', .bool (decide (numOk l m m.length))]) ∧ Rd (F.ext H w.heap.size w') (.slice a' (numA l m).length c') (numA l m).length 1 ((numA l m).map iV) ∧ Below w.heap.size w w' := by
 rw [numA_yes h, decide_eq_true h, numL_len]
 exact ⟨a, c, rfl, r, hB⟩
theorem el_le1 {l : List (List UInt8)} {n : Nat} (h : ∀ x ∈ l, x.length ≤ n) {k : Nat} (hk : k < l.length) : (l.getD k []).length ≤ n := by
 rw [List.getD_eq_getElem?_getD, List.getElem?_eq_getElem hk]; exact h _ (List.getElem_mem _)
theorem be_bd {b : List UInt8} {k : Nat} (h : k ≤ 6) : Go.Au.be (b.take k) < 281474976710656 := by
 have h1 := be_lt (b.take k)
 have h2 : (b.take k).length ≤ 6 := by rw [List.length_take]; omega
 have h3 : 256 ^ (b.take k).length ≤ 256 ^ 6 := Nat.pow_le_pow_right (by decide) h2
 have : (256 : Nat) ^ 6 = 281474976710656 := by decide
 omega
theorem shl8 {g : Nat} (h : g < 281474976710656) : IntKind.i64.wrap (((g : Nat) : Int) * 2 ^ (min (8 : Int).toNat IntKind.i64.bits)) = ((256 * g : Nat) : Int) := by
 show IntKind.i64.wrap (((g : Nat) : Int) * 256) = _
 rw [wrap64_id (by omega) (by omega)]; omega
theorem or8 {g c : Nat} (hg : g < 281474976710656) (hc : c < 256) : bits .or .i64 ((256 * g : Nat) : Int) ((c : Nat) : Int) = ((256 * g + c : Nat) : Int) := by
 have e : ((BitVec.ofInt 64 ((256 * g : Nat) : Int)) ||| (BitVec.ofInt 64 ((c : Nat) : Int))).toNat = 256 * g + c := by
  rw [BitVec.toNat_or, BitVec.toNat_ofInt, BitVec.toNat_ofInt]
  show ((((256 * g : Nat) : Int)) % 18446744073709551616).toNat ||| (((c : Nat) : Int) % 18446744073709551616).toNat = _
  rw [show ((((256 * g : Nat) : Int)) % 18446744073709551616).toNat = g <<< 8 by rw [Nat.shiftLeft_eq]; omega, show (((c : Nat) : Int) % 18446744073709551616).toNat = c by omega, ← Nat.shiftLeft_add_eq_or_of_lt (by omega), Nat.shiftLeft_eq]
  omega
 show IntKind.i64.wrap ((((BitVec.ofInt 64 ((256 * g : Nat) : Int)) ||| (BitVec.ofInt 64 ((c : Nat) : Int))).toNat : Nat) : Int) = _
 rw [e, wrap64_id (by omega) (by omega)]
theorem takeNets_ok {H : Hp} {w : World} (hH : H.le (hw w)) {b : List UInt8} {aa0 : Option Addr} {nn0 cc0 : Nat} (hv : Rd H (.slice aa0 nn0 cc0) nn0 1 (b.map bV)) (n : Nat) (hn : n ≤ 100) (hb : b.length ≤ 1000000) :
  Calls Tryd.prog 40 #[.slice aa0 nn0 cc0, .int .i64 ((n : Nat) : Int)] w fun e w' => ∃ a c, e = .returned (.tuple #[.slice a (ntAll n b).length c, .bool (decide (NtAll n b))]) ∧ RdL (F.ext H w.heap.size w') (.slice a (ntAll n b).length c) (ntAll n b) ∧ Below w.heap.size w w' := by
 obtain rfl : nn0 = b.length := hv.lenB
 have hvcap : b.length ≤ cc0 := hv.capOf
 refine enter2 _ Tryd.func40 rfl Tryd.ntmps40 Tryd.results40 rfl ?_
 have S0 := St.start w hH
 refine Wr ?_
 iterate 2 refine Pv ?_
 refine T_nil (W_seq (Wr ?_))
 iterate 2 refine Pv ?_
 refine T_nil (W_bool 10 false rfl (decide_eq_false (by omega)) ?_)
 refine W_cond_false rfl (W_skip (W_seq (Wr ?_)))
 iterate 2 refine Pv ?_
 refine T_nil (W_block ?_)
 have S1 := S0.nilRow 26 1
 have rs2 := Rds.nil H
 refine W_loop (fun M ρ w' => ∃ (k : Nat) (a5 : Option Addr) (nn6 c7 : Nat) (a9 : Option Addr) (c10 : Nat) (hs12 : List Value) (G3 : Hp), M = n - k ∧ k ≤ n ∧ NtOks k b ∧ ρ = [(0, .slice a5 nn6 c7), (4, .slice a9 k c10), (11, .int .i64 ((n : Nat) : Int)), (12, .int .i64 (k : Int))] ∧ H.le G3 ∧ St w H G3 [.row 26 1 (.slice a9 k c10) k hs12] w' ∧ Rd G3 (.slice a5 nn6 c7) nn6 1 ((ntRest k b).map bV) ∧ Rds G3 hs12 (ntRows k b) ∧ k ≤ c10)
  (n - 0) [(0, .slice aa0 b.length cc0), (4, .slice none 0 0), (11, .int .i64 ((n : Nat) : Int)), (12, .int .i64 ((0 : Nat) : Int))] ⟨rfl, rfl, ciI, ciI, trivial⟩ ⟨0, _, _, _, none, 0, _, H, rfl, (by exact Nat.zero_le _), (by exact NtOks_zero _), rfl, Hp.le.refl _, S1, hv, rs2, (Nat.le_refl _)⟩ ?_
 rintro M ρ w14 ⟨k, a5, nn6, c7, a9, c10, hs12, G3, rfl, hp16, hp17, rfl, hl4, S15, hf8, rs13, hc11⟩
 obtain rfl : nn6 = (ntRest k b).length := hf8.lenB
 have hrl := ntRest_le b k
 refine Wr (Pv (T_nil (W_seq ?_)))
 refine Aa (fun h18 => ?_) (fun h18 => ?_)
 ·refine W_skip (W_seq (W_block (Wr (Pv ?_))))
  refine Cs g_aumbry_code_TakeNet ((takeNet_ok S15.le hf8 (by omega)).mono ?_)
  rintro e w26 ⟨a19, c20, a21, c22, rfl, r23, r24, hB25⟩
  obtain ⟨G28, eG30⟩ : ∃ G, G = F.ext G3 w14.heap.size w26 := ⟨_, rfl⟩
  obtain ⟨hl29, S27⟩ := S15.ext hB25
  rw [← eG30] at hl29 S27 r23 r24
  refine ⟨_, rfl, trivial, ?_⟩
  have hl31 := tn1_le (ntRest k b)
  have hl32 := tn2_le (ntRest k b)
  iterate 7 refine Pv ?_
  refine T_nil (W_seq (Wr ?_))
  iterate 2 refine Pv ?_
  refine T_nil (W_cond_not rfl (fun h33 => ?_) (fun h33 => ?_))
  ·refine Wr ?_
   iterate 2 refine Pv ?_
   refine T_nil (W_ret ?_)
   refine ⟨_, ⟨_, _, rfl, rfl, ⟨_, _, rfl, rfl, rfl⟩⟩, ?_⟩
   exact tk_none (NtOks_not (n := n) (k := k) (by omega) h33) S27.below
  refine W_skip (W_region ?_)
  have HN := h33
  iterate 2 refine Pv ?_
  have rs38 : Rds G28 [.slice a19 (tn1 (ntRest k b)).length c20] [(tn1 (ntRest k b))] := Rds.cons (Rd.canonB r23) (Rds.nil _)
  refine Af (hone := by simp [Value.cells]; rfl) [.slice a19 (tn1 (ntRest k b)).length c20] fun a34 w35 hB36 ho37 => ?_
  have S39 := S27.own hB36 ho37
  refine ⟨trivial, ?_⟩
  have hD40 : (ntRows k b ++ [(tn1 (ntRest k b))]) = ntRows (k + 1) b := (ntRows_snoc k b)
  refine T_appendS 1 (k + 1) _ S39 (fun _ _ => trivial) rfl rfl rfl rfl rfl rfl rfl rfl rfl rfl rfl rfl rfl rfl (S39.rd 0 rfl) rs38.one (by first | rfl | (simp; done) | (simp; omega) | omega) rfl (by unfold maxLen; omega) (by show _ * 24 ≤ _; omega) fun a41 c42 w43 hc44 S45 => ?_
  have rs46 := Rds.append (rs13.mono hl29) rs38
  rw [hD40] at rs46
  iterate 3 refine Pv ?_
  refine T_nil (W_region (Ar ?_))
  refine Pv (T_nil ?_)
  have S47 := S45.drop 0
  exact ⟨n - (k + 1), [(0, .slice a21 (tn2 (ntRest k b)).length c22), (4, .slice a41 (k + 1) c42), (11, .int .i64 ((n : Nat) : Int)), (12, .int .i64 ((k + 1 : Nat) : Int))], by omega, ⟨rfl, rfl, ciI, ciI, trivial⟩, k + 1, _, _, _, a41, c42, _, G28, rfl, (by omega), (by exact NtOks_succ (by assumption) HN), rfl, (hl4.trans hl29), S47, r24, rs46, hc44⟩
 refine W_exit (W_seq (Wr ?_))
 iterate 3 refine Pv ?_
 refine T_nil (Aa (fun h48 => ?_) (fun h48 => ?_))
 ·refine Wr ?_
  iterate 2 refine Pv ?_
  refine T_nil (W_ret ?_)
  refine ⟨_, ⟨_, _, rfl, rfl, ⟨_, _, rfl, rfl, rfl⟩⟩, ?_⟩
  exact tk_none (fun hq => by have hz := hq.2; rw [show n = k by omega] at hz; have hz := congrArg List.length hz; simp only [List.length_nil] at hz; omega) S15.below
 refine W_skip (Wr ?_)
 iterate 3 refine Pv ?_
 refine T_nil (W_ret ?_)
 refine ⟨_, ⟨_, _, rfl, rfl, ⟨_, _, rfl, rfl, rfl⟩⟩, ?_⟩
 obtain ⟨G50, hl51, S49, r52⟩ := S15.stillRow 0 rfl
 have r53 := RdL.mk r52 (rs13.mono hl51)
 obtain rfl : k = n := by omega
 exact tk_some ⟨by assumption, List.eq_nil_of_length_eq_zero (by omega)⟩ ((r53).mono S49.fin) S49.below


theorem get_ok {H : Hp} {w : World} (hH : H.le (hw w)) {b : List UInt8} {aa0 : Option Addr} {nn0 cc0 : Nat} (hv : Rd H (.slice aa0 nn0 cc0) nn0 1 (b.map bV)) (hb : b.length ≤ 1000000) :
  Calls Tryd.prog 75 #[.slice aa0 nn0 cc0] w fun e w' => e = .returned (.tuple #[.int .i64 ((getV b : Nat) : Int), .bool (decide (b.length ≤ 7))]) ∧ Below w.heap.size w w' := by
 obtain rfl : nn0 = b.length := hv.lenB
 have hvcap : b.length ≤ cc0 := hv.capOf
 refine enter1 _ Tryd.func75 rfl Tryd.ntmps75 Tryd.results75 rfl ?_
 have S0 := St.start w hH
 refine Wr ?_
 iterate 2 refine Pv ?_
 refine T_nil (W_seq (Wr ?_))
 iterate 3 refine Pv ?_
 refine T_nil (Aa (fun h1 => ?_) (fun h1 => ?_))
 ·refine Wr ?_
  iterate 2 refine Pv ?_
  refine T_nil (W_ret ?_)
  refine ⟨_, ⟨_, _, rfl, rfl, ⟨_, _, rfl, rfl, rfl⟩⟩, ?_⟩
  exact ⟨by rw [getV_no (by omega), decide_eq_false (by omega)]; rfl, S0.below⟩
 refine W_skip (Wr (Pv (T_nil (W_seq (Wr ?_)))))
 iterate 3 refine Pv ?_
 refine T_nil (W_block ?_)
 have hg0 : Go.Au.be (b.take 0) = 0 := rfl
 refine W_loop (fun M ρ w' => ∃ (k : Nat) (G2 : Hp), M = b.length - k ∧ k ≤ b.length ∧ ρ = [(4, .int .i64 ((Go.Au.be (b.take k) : Nat) : Int)), (10, .slice aa0 b.length cc0), (11, .int .i64 ((b.length : Nat) : Int)), (12, .int .i64 (k : Int))] ∧ H.le G2 ∧ St w H G2 [] w')
  (b.length - 0) [(4, .int .i64 ((Go.Au.be (b.take 0) : Nat) : Int)), (10, .slice aa0 b.length cc0), (11, .int .i64 ((b.length : Nat) : Int)), (12, .int .i64 ((0 : Nat) : Int))] ⟨ciI, rfl, ciI, ciI, trivial⟩ ⟨0, H, rfl, (by omega), rfl, Hp.le.refl _, S0⟩ ?_
 rintro M ρ w4 ⟨k, G2, rfl, hp6, rfl, hl3, S5⟩
 refine Wr (Pv (T_nil (W_seq ?_)))
 refine Aa (fun h7 => ?_) (fun h7 => ?_)
 ·refine W_skip (W_seq (W_block (Wr ?_)))
  have hgl := be_take_lt (l := b) (k := k) (by omega)
  have hcl := (b.getD k 0).toNat_lt
  have hgt := be_take (l := b) (k := k) (by omega)
  have hkl : k + 1 ≤ 7 := by omega
  have hg6 := be_bd (b := b) (k := k) (by omega)
  refine Ah k (hv.mono hl3) fun b8 o9 hc10 => ?_
  have hc11 := hc10 0 (bV (b.getD k 0)) (at_b b k (by omega))
  simp only [Nat.add_zero] at hc11
  refine Ac S5 hc11 ?_
  refine Pv (T_nil (W_region ?_))
  refine Pv ?_
  refine T_shl rfl rfl rfl rfl rfl rfl (by omega) ?_
  refine T_re (v' := .int .i64 ((256 * Go.Au.be (b.take k) : Nat) : Int)) (congrArg (Value.int .i64) (shl8 (by omega))) ?_
  refine Pv ?_
  refine T_b2i rfl rfl rfl rfl rfl rfl rfl (Pv ?_)
  refine T_re (v' := .int .i64 ((256 * Go.Au.be (b.take k) + (b.getD k 0).toNat : Nat) : Int)) (congrArg (Value.int .i64) (or8 (by omega) (by omega))) ?_
  refine Pv (T_nil (W_region ?_))
  refine Ar ?_
  refine Pv (T_nil ?_)
  exact ⟨b.length - (k + 1), [(4, .int .i64 ((Go.Au.be (b.take (k + 1)) : Nat) : Int)), (10, .slice aa0 b.length cc0), (11, .int .i64 ((b.length : Nat) : Int)), (12, .int .i64 ((k + 1 : Nat) : Int))], by omega, ⟨ciI, rfl, ciI, ciI, trivial⟩, k + 1, G2, rfl, (by omega), rfl, hl3, S5⟩
 refine W_exit (Wr ?_)
 iterate 3 refine Pv ?_
 refine T_nil (W_ret ?_)
 refine ⟨_, ⟨_, _, rfl, rfl, ⟨_, _, rfl, rfl, rfl⟩⟩, ?_⟩
 obtain rfl : k = b.length := by omega
 exact ⟨by rw [getV_yes (by omega), decide_eq_true (by omega), List.take_length]; rfl, S5.below⟩


theorem nums_ok {H : Hp} {w : World} (hH : H.le (hw w)) {l : List (List UInt8)} {aa0 : Option Addr} {nn0 cc0 : Nat} (hv : RdL H (.slice aa0 nn0 cc0) l) {m : List Int} {aa1 : Option Addr} {nn1 cc1 : Nat} (hu : Rd H (.slice aa1 nn1 cc1) nn1 1 (m.map iV)) (hml : m.length ≤ l.length) (hm10 : m.length ≤ 10) (hM : ∀ i, m.getD i 0 ≤ 7) (hle : ∀ x ∈ l, x.length ≤ 1000000) :
  Calls Tryd.prog 41 #[.slice aa0 nn0 cc0, .slice aa1 nn1 cc1] w fun e w' => ∃ a c, e = .returned (.tuple #[.slice a (numA l m).length c, .bool (decide (numOk l m m.length))]) ∧ Rd (F.ext H w.heap.size w') (.slice a (numA l m).length c) (numA l m).length 1 ((numA l m).map iV) ∧ Below w.heap.size w w' := by
 obtain rfl : nn0 = l.length := hv.len
 obtain rfl : nn1 = m.length := hu.lenI
 have hucap : m.length ≤ cc1 := hu.capOf
 refine enter2 _ Tryd.func41 rfl Tryd.ntmps41 Tryd.results41 rfl ?_
 have S0 := St.start w hH
 refine Wr ?_
 iterate 2 refine Pv ?_
 refine Nr (Pv (T_nil (W_seq (Wr ?_))))
 iterate 3 refine Pv ?_
 refine T_nil (W_block ?_)
 have S1 := S0.nilRow 3 1
 refine W_loop (fun M ρ w' => ∃ (k : Nat) (a4 : Option Addr) (c5 : Nat) (G2 : Hp), M = m.length - k ∧ k ≤ m.length ∧ numOk l m k ∧ ρ = [(0, .slice aa0 l.length cc0), (6, .slice a4 k c5), (11, .slice aa1 m.length cc1), (12, .int .i64 ((m.length : Nat) : Int)), (13, .int .i64 (k : Int))] ∧ H.le G2 ∧ St w H G2 [.row 3 1 (.slice a4 k c5) k ((numL l k).map iV)] w' ∧ k ≤ c5)
  (m.length - 0) [(0, .slice aa0 l.length cc0), (6, .slice none 0 0), (11, .slice aa1 m.length cc1), (12, .int .i64 ((m.length : Nat) : Int)), (13, .int .i64 ((0 : Nat) : Int))] ⟨rfl, rfl, rfl, ciI, ciI, trivial⟩ ⟨0, none, 0, H, rfl, (by exact Nat.zero_le _), (by exact fun _ h => absurd h (Nat.not_lt_zero _)), rfl, Hp.le.refl _, S1, (Nat.le_refl _)⟩ ?_
 rintro M ρ w7 ⟨k, a4, c5, G2, rfl, hp9, hp10, rfl, hl3, S8, hc6⟩
 refine Wr (Pv (T_nil (W_seq ?_)))
 refine Aa (fun h11 => ?_) (fun h11 => ?_)
 ·refine W_skip (W_seq (W_block (Wr (Pv ?_))))
  refine Ah k (hu.mono hl3) fun b12 o13 hc14 => ?_
  have hc15 := hc14 0 (.int .i64 (m.getD k 0)) (at_i m k (by omega))
  simp only [Nat.add_zero] at hc15
  refine Ac S8 hc15 ?_
  iterate 2 refine Pv ?_
  refine Nr ?_
  have hlk := el_le1 hle (k := k) (by omega)
  iterate 2 refine Pv ?_
  obtain ⟨hs19, r20, r21⟩ := (hv.mono hl3)
  refine Ah k r20 fun b16 o17 hc18 => ?_
  obtain ⟨a24, c25, hc27, hv23, r26⟩ := r21.at k (by omega)
  have hc28 := hc18 0 (.slice a24 (l.getD k []).length c25) (by simpa using hv23)
  simp only [Nat.add_zero] at hc28
  refine Ac S8 hc28 ?_
  refine Cs g_aumbry_code_Get ((get_ok S8.le r26 (by omega)).mono ?_)
  rintro e w30 ⟨rfl, hB29⟩
  have S31 := S8.call hB29
  refine ⟨_, rfl, trivial, ?_⟩
  iterate 5 refine Pv ?_
  refine T_nil (W_seq (Wr ?_))
  iterate 3 refine Pv ?_
  refine Tp 28 (fun h32' => ?_) (fun h32' => ?_)
  ·have h32 := of_ndec_t h32'
   iterate 7 refine No ?_
   refine Pv (T_nil ?_)
   refine W_cond_true rfl (Wr ?_)
   iterate 2 refine Pv ?_
   refine T_nil (W_ret ?_)
   refine ⟨_, ⟨_, _, rfl, rfl, ⟨_, _, rfl, rfl, rfl⟩⟩, ?_⟩
   exact nm_none (fun hq => by have h1 := hq k (by omega); have h2 := hM k; omega) S31.below
  have h32 := of_ndec_f h32'
  iterate 2 (refine Ys ?_; refine Pv ?_)
  refine Ys ?_
  obtain ⟨hs36, r37, r38⟩ := (hv.mono hl3)
  refine Ah k r37 fun b33 o34 hc35 => ?_
  obtain ⟨a41, c42, hc44, hv40, r43⟩ := r38.at k (by omega)
  have hc45 := hc35 0 (.slice a41 (l.getD k []).length c42) (by simpa using hv40)
  simp only [Nat.add_zero] at hc45
  refine Ys ?_
  refine Ac S31 hc45 ?_
  iterate 3 (refine Ys ?_; refine Pv ?_)
  refine Pv (T_nil ?_)
  refine W_cond_not rfl (fun h46 => ?_) (fun h46 => ?_)
  ·refine Wr ?_
   iterate 2 refine Pv ?_
   refine T_nil (W_ret ?_)
   refine ⟨_, ⟨_, _, rfl, rfl, ⟨_, _, rfl, rfl, rfl⟩⟩, ?_⟩
   exact nm_none (fun hq => by have h1 := hq k (by omega); have h2 := hM k; omega) S31.below
  refine W_skip (W_region ?_)
  have HW := h46
  have H7 := h32
  iterate 2 refine Pv ?_
  refine Af (hone := by simp [Value.cells]; rfl) ([((getV (l.getD k []) : Nat) : Int)].map iV) fun a47 w48 hB49 ho50 => ?_
  have S51 := S31.own hB49 ho50
  refine ⟨trivial, ?_⟩
  have hD52 : (numL l k ++ [((getV (l.getD k []) : Nat) : Int)]) = numL l (k + 1) := (by rw [getV_yes H7]; exact numL_snoc l k)
  refine Ag (h1 := by exact one_iV _) (hn' := by first | rfl | (simp; done) | (simp; omega) | omega) (hx' := by rw [← hD52]; simp) (hbytes := by show _ * 8 ≤ _; omega) 1 (k + 1) ((numL l (k + 1)).map iV) S51 (S51.rd 0 rfl) fun a53 c54 w55 hc56 S57 => ?_
  refine Pv (T_nil (W_region ?_))
  refine Ar ?_
  refine Pv (T_nil ?_)
  have S58 := S57.drop 0
  exact ⟨m.length - (k + 1), [(0, .slice aa0 l.length cc0), (6, .slice a53 (k + 1) c54), (11, .slice aa1 m.length cc1), (12, .int .i64 ((m.length : Nat) : Int)), (13, .int .i64 ((k + 1 : Nat) : Int))], by omega, ⟨rfl, rfl, rfl, ciI, ciI, trivial⟩, k + 1, a53, c54, G2, rfl, (by omega), (by exact numOk_succ (by assumption) HW), rfl, hl3, S58, hc56⟩
 refine W_exit (Wr ?_)
 iterate 3 refine Pv ?_
 refine T_nil (W_ret ?_)
 refine ⟨_, ⟨_, _, rfl, rfl, ⟨_, _, rfl, rfl, rfl⟩⟩, ?_⟩
 obtain ⟨G60, hl61, S59, r62⟩ := S8.stillRow 0 rfl
 obtain rfl : k = m.length := by omega
 exact nm_some (by assumption) ((r62).mono S59.fin) S59.below


theorem kn_ok {H : Hp} {w : World} (hH : H.le (hw w)) (a b : Int) :
  Calls Tryd.prog 59 #[.int .i64 a, .int .i64 b] w fun e w' => e = .returned (.bool (decide (1 ≤ a ∧ a ≤ b ∧ b ≤ 16))) ∧ Below w.heap.size w w' := by
 refine enter2 _ Tryd.func59 rfl Tryd.ntmps59 Tryd.results59 rfl ?_
 have S0 := St.start w hH
 refine Wr (Pv (Nr ?_))
 iterate 3 refine Pv ?_
 refine Tp 7 (fun h1' => ?_) (fun h1' => ?_)
 ·have h1 := of_decide_eq_true h1'
  iterate 3 (refine Ys ?_; refine Pv ?_)
  iterate 2 refine Pv ?_
  refine Tp 12 (fun h2' => ?_) (fun h2' => ?_)
  ·have h2 := of_decide_eq_true h2'
   iterate 2 (refine Ys ?_; refine Pv ?_)
   iterate 2 refine Pv ?_
   refine T_nil (W_ret ?_)
   refine ⟨_, ⟨_, _, rfl, rfl, rfl⟩, ?_⟩
   exact ⟨by first | (rw [decide_eq_true (by omega)]; done) | (rw [decide_eq_false (by omega)]; rfl) | exact congrArg (fun z => Ending.returned (Value.bool z)) (decide_eq_decide.2 (by omega)), S0.below⟩
  have h2 := of_decide_eq_false h2'
  iterate 2 refine No ?_
  iterate 2 refine Pv ?_
  refine T_nil (W_ret ?_)
  refine ⟨_, ⟨_, _, rfl, rfl, rfl⟩, ?_⟩
  exact ⟨by first | (rw [decide_eq_true (by omega)]; done) | (rw [decide_eq_false (by omega)]; rfl) | exact congrArg (fun z => Ending.returned (Value.bool z)) (decide_eq_decide.2 (by omega)), S0.below⟩
 have h1 := of_decide_eq_false h1'
 iterate 3 refine No ?_
 iterate 2 refine Pv ?_
 iterate 2 refine No ?_
 iterate 2 refine Pv ?_
 refine T_nil (W_ret ?_)
 refine ⟨_, ⟨_, _, rfl, rfl, rfl⟩, ?_⟩
 exact ⟨by first | (rw [decide_eq_true (by omega)]; done) | (rw [decide_eq_false (by omega)]; rfl) | exact congrArg (fun z => Ending.returned (Value.bool z)) (decide_eq_decide.2 (by omega)), S0.below⟩


end Go.Proofs.YtmjmjjkigblbgaaDoor
