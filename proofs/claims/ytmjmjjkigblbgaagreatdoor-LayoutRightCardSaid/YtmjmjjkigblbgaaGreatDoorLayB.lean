/- Walks of the program's functions. -/
import Derived.Test.YtmjmjjkigblbgaaGreatDoorGfC
import Derived.Test.YtmjmjjkigblbgaaGreatDoorAuDoor
import Derived.Test.YtmjmjjkigblbgaaGreatDoorTab
import Derived.Test.YtmjmjjkigblbgaaGreatDoorFLaidAll
import Derived.Test.YtmjmjjkigblbgaaGreatDoorRows
import Derived.WalkKit
import Derived.ProofKit
import Derived.OpenShut
import Derived.ShutString
import Derived.ChangeOld
import Derived.Below
import Derived.LaidMore
import Derived.Stop.Joined
set_option linter.unusedVariables false
set_option linter.unusedSimpArgs false
set_option maxRecDepth 8192
namespace Go.Proofs.YtmjmjjkigblbgaaGreatDoor
open Go Go.F Go.RowKit
open Go.Au

theorem tk_none {H : Hp} {w w' : World} {n : Nat} {b : List UInt8} (h : ¬ NtAll n b) (hB : Below w.heap.size w w') :
  ∃ a c, Ending.returned (.tuple #[.slice none 0 0, .bool false]) = .returned (.tuple #[.slice a (ntAll n b).length c, .bool (decide (NtAll n b))]) ∧ RdL (F.ext H w.heap.size w') (.slice a (ntAll n b).length c) (ntAll n b) ∧ Below w.heap.size w w' := by
 rw [ntAll_no h, decide_eq_false h]
 exact ⟨none, 0, rfl, nilS _, hB⟩
theorem tk_some {H : Hp} {w w' : World} {n : Nat} {b : List UInt8} (h : NtAll n b) {a : Option Addr} {c : Nat} (r : RdL (F.ext H w.heap.size w') (.slice a n c) (ntRows n b)) (hB : Below w.heap.size w w') :
  ∃ a' c', Ending.returned (.tuple #[.slice a n c, .bool true]) = .returned (.tuple #[.slice a' (ntAll n b).length c', .bool (decide (NtAll n b))]) ∧ RdL (F.ext H w.heap.size w') (.slice a' (ntAll n b).length c') (ntAll n b) ∧ Below w.heap.size w w' := by
 rw [ntAll_yes h, decide_eq_true h, ntRows_len]
 exact ⟨a, c, rfl, r, hB⟩
theorem nm_none {H : Hp} {w w' : World} {l : List (List UInt8)} {m : List Int} (h : ¬ numOk l m m.length) (hB : Below w.heap.size w w') :
  ∃ a c, Ending.returned (.tuple #[.slice none 0 0, .bool false]) = .returned (.tuple #[.slice a (numA l m).length c, .bool (decide (numOk l m m.length))]) ∧ Rd (F.ext H w.heap.size w') (.slice a (numA l m).length c) (numA l m).length 1 ((numA l m).map iV) ∧ Below w.heap.size w w' := by
 rw [numA_no h, decide_eq_false h]
 exact ⟨none, 0, rfl, Rd.nil _ _, hB⟩
theorem nm_some {H : Hp} {w w' : World} {l : List (List UInt8)} {m : List Int} (h : numOk l m m.length) {a : Option Addr} {c : Nat} (r : Rd (F.ext H w.heap.size w') (.slice a m.length c) m.length 1 ((numL l m.length).map iV)) (hB : Below w.heap.size w w') :
  ∃ a' c', Ending.returned (.tuple #[.slice a m.length c, .bool true]) = .returned (.tuple #[.slice a' (numA l m).length c', .bool (decide (numOk l m m.length))]) ∧ Rd (F.ext H w.heap.size w') (.slice a' (numA l m).length c') (numA l m).length 1 ((numA l m).map iV) ∧ Below w.heap.size w w' := by
 rw [numA_yes h, decide_eq_true h, numL_len]
 exact ⟨a, c, rfl, r, hB⟩
theorem el_le1 {l : List (List UInt8)} {n : Nat} (h : ∀ x ∈ l, x.length ≤ n) {k : Nat} (hk : k < l.length) : (l.getD k []).length ≤ n := by
 rw [List.getD_eq_getElem?_getD, List.getElem?_eq_getElem hk]; exact h _ (List.getElem_mem _)
theorem be_bd {b : List UInt8} {k : Nat} (h : k ≤ 6) : Go.Au.be (b.take k) < 281474976710656 := by
 have h1 := be_lt (b.take k)
 have h2 : (b.take k).length ≤ 6 := by rw [List.length_take]; omega
 have h3 : 256 ^ (b.take k).length ≤ 256 ^ 6 := Nat.pow_le_pow_right (by decide) h2
 have : (256 : Nat) ^ 6 = 281474976710656 := by decide
 omega
theorem shl8 {g : Nat} (h : g < 281474976710656) : IntKind.i64.wrap (((g : Nat) : Int) * 2 ^ (min (8 : Int).toNat IntKind.i64.bits)) = ((256 * g : Nat) : Int) := by
 show IntKind.i64.wrap (((g : Nat) : Int) * 256) = _
 rw [wrap64_id (by omega) (by omega)]; omega
theorem or8 {g c : Nat} (hg : g < 281474976710656) (hc : c < 256) : bits .or .i64 ((256 * g : Nat) : Int) ((c : Nat) : Int) = ((256 * g + c : Nat) : Int) := by
 have e : ((BitVec.ofInt 64 ((256 * g : Nat) : Int)) ||| (BitVec.ofInt 64 ((c : Nat) : Int))).toNat = 256 * g + c := by
  rw [BitVec.toNat_or, BitVec.toNat_ofInt, BitVec.toNat_ofInt]
  show ((((256 * g : Nat) : Int)) % 18446744073709551616).toNat ||| (((c : Nat) : Int) % 18446744073709551616).toNat = _
  rw [show ((((256 * g : Nat) : Int)) % 18446744073709551616).toNat = g <<< 8 by rw [Nat.shiftLeft_eq]; omega, show (((c : Nat) : Int) % 18446744073709551616).toNat = c by omega, ← Nat.shiftLeft_add_eq_or_of_lt (by omega), Nat.shiftLeft_eq]
  omega
 show IntKind.i64.wrap ((((BitVec.ofInt 64 ((256 * g : Nat) : Int)) ||| (BitVec.ofInt 64 ((c : Nat) : Int))).toNat : Nat) : Int) = _
 rw [e, wrap64_id (by omega) (by omega)]
theorem takeNets_ok {H : Hp} {w : World} (hH : H.le (hw w)) {b : List UInt8} {aa0 : Option Addr} {nn0 cc0 : Nat} (hv : Rd H (.slice aa0 nn0 cc0) nn0 1 (b.map bV)) (n : Nat) (hn : n ≤ 100) (hb : b.length ≤ 1000000) :
  Calls Tryz.prog 61 #[.slice aa0 nn0 cc0, .int .i64 ((n : Nat) : Int)] w fun e w' => ∃ a c, e = .returned (.tuple #[.slice a (ntAll n b).length c, .bool (decide (NtAll n b))]) ∧ RdL (F.ext H w.heap.size w') (.slice a (ntAll n b).length c) (ntAll n b) ∧ Below w.heap.size w w' := by
 obtain rfl : nn0 = b.length := hv.lenB
 have hvcap : b.length ≤ cc0 := hv.capOf
 refine enter2 _ Tryz.func61 rfl Tryz.ntmps61 Tryz.results61 rfl ?_
 have S0 := St.start w hH
 refine Wr (P2 (T_nil (W_seq (Wr ?_))))
 refine P2 (T_nil ?_)
 refine W_bool 10 false rfl (decide_eq_false (by omega)) ?_
 refine W_cond_false rfl (W_skip (W_seq (Wr (P2 (T_nil (W_block ?_))))))
 have S1 := S0.nilRow 24 1
 have rs2 := Rds.nil H
 refine W_loop (fun M ρ w' => ∃ (k : Nat) (a5 : Option Addr) (nn6 c7 : Nat) (a9 : Option Addr) (c10 : Nat) (hs12 : List Value) (G3 : Hp), M = n - k ∧ k ≤ n ∧ NtOks k b ∧ ρ = [(0, .slice a5 nn6 c7), (4, .slice a9 k c10), (11, .int .i64 ((n : Nat) : Int)), (12, .int .i64 (k : Int))] ∧ H.le G3 ∧ St w H G3 [.row 24 1 (.slice a9 k c10) k hs12] w' ∧ Rd G3 (.slice a5 nn6 c7) nn6 1 ((ntRest k b).map bV) ∧ Rds G3 hs12 (ntRows k b) ∧ k ≤ c10)
  (n - 0) [(0, .slice aa0 b.length cc0), (4, .slice none 0 0), (11, .int .i64 ((n : Nat) : Int)), (12, .int .i64 ((0 : Nat) : Int))] ⟨rfl, rfl, ciI, ciI, trivial⟩ ⟨0, _, _, _, none, 0, _, H, rfl, (by exact Nat.zero_le _), (by exact NtOks_zero _), rfl, Hp.le.refl _, S1, hv, rs2, (Nat.le_refl _)⟩ ?_
 rintro M ρ w14 ⟨k, a5, nn6, c7, a9, c10, hs12, G3, rfl, hp16, hp17, rfl, hl4, S15, hf8, rs13, hc11⟩
 obtain rfl : nn6 = (ntRest k b).length := hf8.lenB
 have hrl := ntRest_le b k
 refine Wr (Pv (T_nil (W_seq ?_)))
 refine Ab (fun h18 => ?_) (fun h18 => ?_)
 ·refine W_skip (W_seq (W_block (Wr (Pv ?_))))
  refine Cs g_aumbry_code_TakeNet ((takeNet_ok S15.le hf8 (by omega)).mono ?_)
  rintro e w26 ⟨a19, c20, a21, c22, rfl, r23, r24, hB25⟩
  obtain ⟨G28, eG30⟩ : ∃ G, G = F.ext G3 w14.heap.size w26 := ⟨_, rfl⟩
  obtain ⟨hl29, S27⟩ := S15.ext hB25
  rw [← eG30] at hl29 S27 r23 r24
  refine ⟨_, rfl, trivial, ?_⟩
  have hl31 := tn1_le (ntRest k b)
  have hl32 := tn2_le (ntRest k b)
  iterate 7 refine Pv ?_
  refine T_nil (W_seq (Wr (P2 (T_nil ?_))))
  refine W_cond_not rfl (fun h33 => ?_) (fun h33 => ?_)
  ·refine Wr (P2 (T_nil (W_ret ?_)))
   refine ⟨_, ⟨_, _, rfl, rfl, ⟨_, _, rfl, rfl, rfl⟩⟩, ?_⟩
   exact tk_none (NtOks_not (n := n) (k := k) (by omega) h33) S27.below
  refine W_skip (W_region ?_)
  have HN := h33
  refine P2 ?_
  have rs38 : Rds G28 [.slice a19 (tn1 (ntRest k b)).length c20] [(tn1 (ntRest k b))] := Rds.cons (Rd.canonB r23) (Rds.nil _)
  refine Ah (hone := by simp [Value.cells]; rfl) [.slice a19 (tn1 (ntRest k b)).length c20] fun a34 w35 hB36 ho37 => ?_
  have S39 := S27.own hB36 ho37
  refine ⟨trivial, ?_⟩
  have hD40 : (ntRows k b ++ [(tn1 (ntRest k b))]) = ntRows (k + 1) b := (ntRows_snoc k b)
  refine T_appendS 1 (k + 1) _ S39 (fun _ _ => trivial) rfl rfl rfl rfl rfl rfl rfl rfl rfl rfl rfl rfl rfl rfl (S39.rd 0 rfl) rs38.one (by first | rfl | (simp; done) | (simp; omega) | omega) rfl (by unfold maxLen; omega) (by show _ * 24 ≤ _; omega) fun a41 c42 w43 hc44 S45 => ?_
  have rs46 := Rds.append (rs13.mono hl29) rs38
  rw [hD40] at rs46
  refine P3 (T_nil (W_region ?_))
  refine Ar ?_
  refine Pv (T_nil ?_)
  have S47 := S45.drop 0
  exact ⟨n - (k + 1), [(0, .slice a21 (tn2 (ntRest k b)).length c22), (4, .slice a41 (k + 1) c42), (11, .int .i64 ((n : Nat) : Int)), (12, .int .i64 ((k + 1 : Nat) : Int))], by omega, ⟨rfl, rfl, ciI, ciI, trivial⟩, k + 1, _, _, _, a41, c42, _, G28, rfl, (by omega), (by exact NtOks_succ (by assumption) HN), rfl, (hl4.trans hl29), S47, r24, rs46, hc44⟩
 refine W_exit (W_seq (Wr (P3 (T_nil ?_))))
 refine Ab (fun h48 => ?_) (fun h48 => ?_)
 ·refine Wr (P2 (T_nil (W_ret ?_)))
  refine ⟨_, ⟨_, _, rfl, rfl, ⟨_, _, rfl, rfl, rfl⟩⟩, ?_⟩
  exact tk_none (fun hq => by have hz := hq.2; rw [show n = k by omega] at hz; have hz := congrArg List.length hz; simp only [List.length_nil] at hz; omega) S15.below
 refine W_skip (Wr (P3 (T_nil (W_ret ?_))))
 refine ⟨_, ⟨_, _, rfl, rfl, ⟨_, _, rfl, rfl, rfl⟩⟩, ?_⟩
 obtain ⟨G50, hl51, S49, r52⟩ := S15.stillRow 0 rfl
 have r53 := RdL.mk r52 (rs13.mono hl51)
 obtain rfl : k = n := by omega
 exact tk_some ⟨by assumption, List.eq_nil_of_length_eq_zero (by omega)⟩ ((r53).mono S49.fin) S49.below


theorem takeNetsR_ok {H : Hp} {w : World} (hH : H.le (hw w)) {b : List UInt8} {aa0 : Option Addr} {nn0 cc0 : Nat} (hv : Rd H (.slice aa0 nn0 cc0) nn0 1 (b.map bV)) (n : Nat) (hn : n ≤ 100) (hb : b.length ≤ 1000000) :
  Calls Tryz.prog 74 #[.slice aa0 nn0 cc0, .int .i64 ((n : Nat) : Int)] w fun e w' => ∃ a c, e = .returned (.tuple #[.slice a (ntAll n b).length c, .bool (decide (NtAll n b))]) ∧ RdL (F.ext H w.heap.size w') (.slice a (ntAll n b).length c) (ntAll n b) ∧ Below w.heap.size w w' := by
 obtain rfl : nn0 = b.length := hv.lenB
 have hvcap : b.length ≤ cc0 := hv.capOf
 refine enter2 _ Tryz.func74 rfl Tryz.ntmps74 Tryz.results74 rfl ?_
 have S0 := St.start w hH
 refine Wr (P2 (Nr ?_))
 refine Pv (T_nil (W_seq (Wr ?_)))
 refine Pv (T_nil (W_block ?_))
 have S1 := S0.nilRow 24 1
 have rs2 := Rds.nil H
 refine W_loop (fun M ρ w' => ∃ (k : Nat) (a5 : Option Addr) (nn6 c7 : Nat) (a9 : Option Addr) (c10 : Nat) (hs12 : List Value) (G3 : Hp), M = n - k ∧ k ≤ n ∧ NtOks k b ∧ ρ = [(0, .slice a5 nn6 c7), (1, .int .i64 ((n : Nat) : Int)), (6, .slice a9 k c10), (7, .int .i64 (k : Int))] ∧ H.le G3 ∧ St w H G3 [.row 24 1 (.slice a9 k c10) k hs12] w' ∧ Rd G3 (.slice a5 nn6 c7) nn6 1 ((ntRest k b).map bV) ∧ Rds G3 hs12 (ntRows k b) ∧ k ≤ c10)
  (n - 0) [(0, .slice aa0 b.length cc0), (1, .int .i64 ((n : Nat) : Int)), (6, .slice none 0 0), (7, .int .i64 ((0 : Nat) : Int))] ⟨rfl, ciI, rfl, ciI, trivial⟩ ⟨0, _, _, _, none, 0, _, H, rfl, (by exact Nat.zero_le _), (by exact NtOks_zero _), rfl, Hp.le.refl _, S1, hv, rs2, (Nat.le_refl _)⟩ ?_
 rintro M ρ w14 ⟨k, a5, nn6, c7, a9, c10, hs12, G3, rfl, hp16, hp17, rfl, hl4, S15, hf8, rs13, hc11⟩
 obtain rfl : nn6 = (ntRest k b).length := hf8.lenB
 have hrl := ntRest_le b k
 refine W_seq (Wr (P3 (T_nil ?_)))
 refine Ab (fun h18 => ?_) (fun h18 => ?_)
 ·refine W_skip (W_seq (W_block (Wr (Pv ?_))))
  refine Cs g_aumbry_aumbryref01_TakeNet ((takeNetR_ok S15.le hf8 (by omega)).mono ?_)
  rintro e w26 ⟨a19, c20, a21, c22, rfl, r23, r24, hB25⟩
  obtain ⟨G28, eG30⟩ : ∃ G, G = F.ext G3 w14.heap.size w26 := ⟨_, rfl⟩
  obtain ⟨hl29, S27⟩ := S15.ext hB25
  rw [← eG30] at hl29 S27 r23 r24
  refine ⟨_, rfl, trivial, ?_⟩
  have hl31 := tn1_le (ntRest k b)
  have hl32 := tn2_le (ntRest k b)
  iterate 7 refine Pv ?_
  refine T_nil (W_seq (Wr (P2 (T_nil ?_))))
  refine W_cond_not rfl (fun h33 => ?_) (fun h33 => ?_)
  ·refine Wr (P2 (T_nil (W_ret ?_)))
   refine ⟨_, ⟨_, _, rfl, rfl, ⟨_, _, rfl, rfl, rfl⟩⟩, ?_⟩
   exact tk_none (NtOks_not (n := n) (k := k) (by omega) h33) S27.below
  refine W_skip (Wr ?_)
  have HN := h33
  refine P2 ?_
  have rs38 : Rds G28 [.slice a19 (tn1 (ntRest k b)).length c20] [(tn1 (ntRest k b))] := Rds.cons (Rd.canonB r23) (Rds.nil _)
  refine Ah (hone := by simp [Value.cells]; rfl) [.slice a19 (tn1 (ntRest k b)).length c20] fun a34 w35 hB36 ho37 => ?_
  have S39 := S27.own hB36 ho37
  refine ⟨trivial, ?_⟩
  have hD40 : (ntRows k b ++ [(tn1 (ntRest k b))]) = ntRows (k + 1) b := (ntRows_snoc k b)
  refine T_appendS 1 (k + 1) _ S39 (fun _ _ => trivial) rfl rfl rfl rfl rfl rfl rfl rfl rfl rfl rfl rfl rfl rfl (S39.rd 0 rfl) rs38.one (by first | rfl | (simp; done) | (simp; omega) | omega) rfl (by unfold maxLen; omega) (by show _ * 24 ≤ _; omega) fun a41 c42 w43 hc44 S45 => ?_
  have rs46 := Rds.append (rs13.mono hl29) rs38
  rw [hD40] at rs46
  iterate 2 (refine Pv ?_; refine T_nil ?_; refine W_region ?_; refine Pv ?_)
  refine Ar ?_
  refine Pv (T_nil ?_)
  have S47 := S45.drop 0
  exact ⟨n - (k + 1), [(0, .slice a21 (tn2 (ntRest k b)).length c22), (1, .int .i64 ((n : Nat) : Int)), (6, .slice a41 (k + 1) c42), (7, .int .i64 ((k + 1 : Nat) : Int))], by omega, ⟨rfl, ciI, rfl, ciI, trivial⟩, k + 1, _, _, _, a41, c42, _, G28, rfl, (by omega), (by exact NtOks_succ (by assumption) HN), rfl, (hl4.trans hl29), S47, r24, rs46, hc44⟩
 refine W_exit (W_seq (Wr (P3 ?_)))
 refine T_bool 31 false rfl (decide_eq_false (by omega)) ?_
 iterate 3 (refine Ys ?_; refine Pv ?_)
 refine Pv (T_nil ?_)
 refine Ab (fun h48 => ?_) (fun h48 => ?_)
 ·refine Wr (P2 (T_nil (W_ret ?_)))
  refine ⟨_, ⟨_, _, rfl, rfl, ⟨_, _, rfl, rfl, rfl⟩⟩, ?_⟩
  exact tk_none (fun hq => by have hz := hq.2; rw [show n = k by omega] at hz; have hz := congrArg List.length hz; simp only [List.length_nil] at hz; omega) S15.below
 refine W_skip (Wr (P3 (T_nil (W_ret ?_))))
 refine ⟨_, ⟨_, _, rfl, rfl, ⟨_, _, rfl, rfl, rfl⟩⟩, ?_⟩
 obtain ⟨G50, hl51, S49, r52⟩ := S15.stillRow 0 rfl
 have r53 := RdL.mk r52 (rs13.mono hl51)
 obtain rfl : k = n := by omega
 exact tk_some ⟨by assumption, List.eq_nil_of_length_eq_zero (by omega)⟩ ((r53).mono S49.fin) S49.below


theorem get_ok {H : Hp} {w : World} (hH : H.le (hw w)) {b : List UInt8} {aa0 : Option Addr} {nn0 cc0 : Nat} (hv : Rd H (.slice aa0 nn0 cc0) nn0 1 (b.map bV)) (hb : b.length ≤ 1000000) :
  Calls Tryz.prog 105 #[.slice aa0 nn0 cc0] w fun e w' => e = .returned (.tuple #[.int .i64 ((getV b : Nat) : Int), .bool (decide (b.length ≤ 7))]) ∧ Below w.heap.size w w' := by
 obtain rfl : nn0 = b.length := hv.lenB
 have hvcap : b.length ≤ cc0 := hv.capOf
 refine Aa Tryz.func105 Tryz.ntmps105 Tryz.results105 ?_
 have S0 := St.start w hH
 refine Wr (P2 (T_nil (W_seq (Wr ?_))))
 refine P3 (T_nil ?_)
 refine Ab (fun h1 => ?_) (fun h1 => ?_)
 ·refine Wr (P2 (T_nil (W_ret ?_)))
  refine ⟨_, ⟨_, _, rfl, rfl, ⟨_, _, rfl, rfl, rfl⟩⟩, ?_⟩
  exact ⟨by rw [getV_no (by omega), decide_eq_false (by omega)]; rfl, S0.below⟩
 refine W_skip (Wr (Pv (T_nil (W_seq (Wr ?_)))))
 refine P3 (T_nil (W_block ?_))
 have hg0 : Go.Au.be (b.take 0) = 0 := rfl
 refine W_loop (fun M ρ w' => ∃ (k : Nat) (G2 : Hp), M = b.length - k ∧ k ≤ b.length ∧ ρ = [(4, .int .i64 ((Go.Au.be (b.take k) : Nat) : Int)), (10, .slice aa0 b.length cc0), (11, .int .i64 ((b.length : Nat) : Int)), (12, .int .i64 (k : Int))] ∧ H.le G2 ∧ St w H G2 [] w')
  (b.length - 0) [(4, .int .i64 ((Go.Au.be (b.take 0) : Nat) : Int)), (10, .slice aa0 b.length cc0), (11, .int .i64 ((b.length : Nat) : Int)), (12, .int .i64 ((0 : Nat) : Int))] ⟨ciI, rfl, ciI, ciI, trivial⟩ ⟨0, H, rfl, (by omega), rfl, Hp.le.refl _, S0⟩ ?_
 rintro M ρ w4 ⟨k, G2, rfl, hp6, rfl, hl3, S5⟩
 refine Wr (Pv (T_nil (W_seq ?_)))
 refine Ab (fun h7 => ?_) (fun h7 => ?_)
 ·refine W_skip (W_seq (W_block (Wr ?_)))
  have hgl := be_take_lt (l := b) (k := k) (by omega)
  have hcl := (b.getD k 0).toNat_lt
  have hgt := be_take (l := b) (k := k) (by omega)
  have hkl : k + 1 ≤ 7 := by omega
  have hg6 := be_bd (b := b) (k := k) (by omega)
  refine Aj k (hv.mono hl3) fun b8 o9 hc10 => ?_
  have hc11 := hc10 0 (bV (b.getD k 0)) (at_b b k (by omega))
  simp only [Nat.add_zero] at hc11
  refine Ad S5 hc11 ?_
  refine Pv (T_nil (W_region ?_))
  refine Pv ?_
  refine T_shl rfl rfl rfl rfl rfl rfl (by omega) ?_
  refine T_re (v' := .int .i64 ((256 * Go.Au.be (b.take k) : Nat) : Int)) (congrArg (Value.int .i64) (shl8 (by omega))) ?_
  refine Pv ?_
  refine T_b2i rfl rfl rfl rfl rfl rfl rfl (Pv ?_)
  refine T_re (v' := .int .i64 ((256 * Go.Au.be (b.take k) + (b.getD k 0).toNat : Nat) : Int)) (congrArg (Value.int .i64) (or8 (by omega) (by omega))) ?_
  refine Pv (T_nil (W_region ?_))
  refine Ar ?_
  refine Pv (T_nil ?_)
  exact ⟨b.length - (k + 1), [(4, .int .i64 ((Go.Au.be (b.take (k + 1)) : Nat) : Int)), (10, .slice aa0 b.length cc0), (11, .int .i64 ((b.length : Nat) : Int)), (12, .int .i64 ((k + 1 : Nat) : Int))], by omega, ⟨ciI, rfl, ciI, ciI, trivial⟩, k + 1, G2, rfl, (by omega), rfl, hl3, S5⟩
 refine W_exit (Wr (P3 (T_nil (W_ret ?_))))
 refine ⟨_, ⟨_, _, rfl, rfl, ⟨_, _, rfl, rfl, rfl⟩⟩, ?_⟩
 obtain rfl : k = b.length := by omega
 exact ⟨by rw [getV_yes (by omega), decide_eq_true (by omega), List.take_length]; rfl, S5.below⟩


theorem getR_ok {H : Hp} {w : World} (hH : H.le (hw w)) {b : List UInt8} {aa0 : Option Addr} {nn0 cc0 : Nat} (hv : Rd H (.slice aa0 nn0 cc0) nn0 1 (b.map bV)) (hb : b.length ≤ 1000000) :
  Calls Tryz.prog 76 #[.slice aa0 nn0 cc0] w fun e w' => e = .returned (.tuple #[.int .i64 ((getV b : Nat) : Int), .bool (decide (b.length ≤ 7))]) ∧ Below w.heap.size w w' := by
 obtain rfl : nn0 = b.length := hv.lenB
 have hvcap : b.length ≤ cc0 := hv.capOf
 refine Aa Tryz.func76 Tryz.ntmps76 Tryz.results76 ?_
 have S0 := St.start w hH
 refine Wr (P2 (T_nil (W_seq (Wr ?_))))
 refine P3 (T_nil ?_)
 refine Ab (fun h1 => ?_) (fun h1 => ?_)
 ·refine Wr (P2 (T_nil (W_ret ?_)))
  refine ⟨_, ⟨_, _, rfl, rfl, ⟨_, _, rfl, rfl, rfl⟩⟩, ?_⟩
  exact ⟨by rw [getV_no (by omega), decide_eq_false (by omega)]; rfl, S0.below⟩
 refine W_skip (Wr (Pv (T_nil (W_seq (Wr ?_)))))
 refine P3 (T_nil (W_block ?_))
 have hg0 : Go.Au.be (b.take 0) = 0 := rfl
 refine W_loop (fun M ρ w' => ∃ (k : Nat) (G2 : Hp), M = b.length - k ∧ k ≤ b.length ∧ ρ = [(0, .slice aa0 b.length cc0), (4, .int .i64 ((Go.Au.be (b.take k) : Nat) : Int)), (10, .int .i64 ((b.length : Nat) : Int)), (11, .int .i64 (k : Int))] ∧ H.le G2 ∧ St w H G2 [] w')
  (b.length - 0) [(0, .slice aa0 b.length cc0), (4, .int .i64 ((Go.Au.be (b.take 0) : Nat) : Int)), (10, .int .i64 ((b.length : Nat) : Int)), (11, .int .i64 ((0 : Nat) : Int))] ⟨rfl, ciI, ciI, ciI, trivial⟩ ⟨0, H, rfl, (by omega), rfl, Hp.le.refl _, S0⟩ ?_
 rintro M ρ w4 ⟨k, G2, rfl, hp6, rfl, hl3, S5⟩
 refine Wr (Pv (T_nil (W_seq ?_)))
 refine Ab (fun h7 => ?_) (fun h7 => ?_)
 ·refine W_skip (W_seq (W_block (Wr ?_)))
  have hgl := be_take_lt (l := b) (k := k) (by omega)
  have hcl := (b.getD k 0).toNat_lt
  have hgt := be_take (l := b) (k := k) (by omega)
  have hkl : k + 1 ≤ 7 := by omega
  have hg6 := be_bd (b := b) (k := k) (by omega)
  refine P2 (T_nil (W_region ?_))
  refine Pv ?_
  refine Ar ?_
  refine P2 ?_
  refine Aj k (hv.mono hl3) fun b8 o9 hc10 => ?_
  have hc11 := hc10 0 (bV (b.getD k 0)) (at_b b k (by omega))
  simp only [Nat.add_zero] at hc11
  refine Ad S5 hc11 ?_
  refine T_b2i rfl rfl rfl rfl rfl rfl rfl (Ar ?_)
  refine Pv (T_nil (W_region ?_))
  refine Ar ?_
  refine Pv (T_nil ?_)
  exact ⟨b.length - (k + 1), [(0, .slice aa0 b.length cc0), (4, .int .i64 ((Go.Au.be (b.take (k + 1)) : Nat) : Int)), (10, .int .i64 ((b.length : Nat) : Int)), (11, .int .i64 ((k + 1 : Nat) : Int))], by omega, ⟨rfl, ciI, ciI, ciI, trivial⟩, k + 1, G2, rfl, (by omega), rfl, hl3, S5⟩
 refine W_exit (Wr (P3 (T_nil (W_ret ?_))))
 refine ⟨_, ⟨_, _, rfl, rfl, ⟨_, _, rfl, rfl, rfl⟩⟩, ?_⟩
 obtain rfl : k = b.length := by omega
 exact ⟨by rw [getV_yes (by omega), decide_eq_true (by omega), List.take_length]; rfl, S5.below⟩


theorem nums_ok {H : Hp} {w : World} (hH : H.le (hw w)) {l : List (List UInt8)} {aa0 : Option Addr} {nn0 cc0 : Nat} (hv : RdL H (.slice aa0 nn0 cc0) l) {m : List Int} {aa1 : Option Addr} {nn1 cc1 : Nat} (hu : Rd H (.slice aa1 nn1 cc1) nn1 1 (m.map iV)) (hml : m.length ≤ l.length) (hm10 : m.length ≤ 10) (hM : ∀ i, m.getD i 0 ≤ 7) (hle : ∀ x ∈ l, x.length ≤ 1000000) :
  Calls Tryz.prog 62 #[.slice aa0 nn0 cc0, .slice aa1 nn1 cc1] w fun e w' => ∃ a c, e = .returned (.tuple #[.slice a (numA l m).length c, .bool (decide (numOk l m m.length))]) ∧ Rd (F.ext H w.heap.size w') (.slice a (numA l m).length c) (numA l m).length 1 ((numA l m).map iV) ∧ Below w.heap.size w w' := by
 obtain rfl : nn0 = l.length := hv.len
 obtain rfl : nn1 = m.length := hu.lenI
 have hucap : m.length ≤ cc1 := hu.capOf
 refine enter2 _ Tryz.func62 rfl Tryz.ntmps62 Tryz.results62 rfl ?_
 have S0 := St.start w hH
 refine Wr (P2 (Nr ?_))
 refine Pv (T_nil (W_seq (Wr ?_)))
 refine P3 (T_nil (W_block ?_))
 have S1 := S0.nilRow 3 1
 refine W_loop (fun M ρ w' => ∃ (k : Nat) (a4 : Option Addr) (c5 : Nat) (G2 : Hp), M = m.length - k ∧ k ≤ m.length ∧ numOk l m k ∧ ρ = [(0, .slice aa0 l.length cc0), (6, .slice a4 k c5), (11, .slice aa1 m.length cc1), (12, .int .i64 ((m.length : Nat) : Int)), (13, .int .i64 (k : Int))] ∧ H.le G2 ∧ St w H G2 [.row 3 1 (.slice a4 k c5) k ((numL l k).map iV)] w' ∧ k ≤ c5)
  (m.length - 0) [(0, .slice aa0 l.length cc0), (6, .slice none 0 0), (11, .slice aa1 m.length cc1), (12, .int .i64 ((m.length : Nat) : Int)), (13, .int .i64 ((0 : Nat) : Int))] ⟨rfl, rfl, rfl, ciI, ciI, trivial⟩ ⟨0, none, 0, H, rfl, (by exact Nat.zero_le _), (by exact fun _ h => absurd h (Nat.not_lt_zero _)), rfl, Hp.le.refl _, S1, (Nat.le_refl _)⟩ ?_
 rintro M ρ w7 ⟨k, a4, c5, G2, rfl, hp9, hp10, rfl, hl3, S8, hc6⟩
 refine Wr (Pv (T_nil (W_seq ?_)))
 refine Ab (fun h11 => ?_) (fun h11 => ?_)
 ·refine W_skip (W_seq (W_block (Wr (Pv ?_))))
  refine Aj k (hu.mono hl3) fun b12 o13 hc14 => ?_
  have hc15 := hc14 0 (.int .i64 (m.getD k 0)) (at_i m k (by omega))
  simp only [Nat.add_zero] at hc15
  refine Ad S8 hc15 ?_
  refine P2 (Nr ?_)
  have hlk := el_le1 hle (k := k) (by omega)
  refine P2 ?_
  obtain ⟨hs19, r20, r21⟩ := (hv.mono hl3)
  refine Aj k r20 fun b16 o17 hc18 => ?_
  obtain ⟨a24, c25, hc27, hv23, r26⟩ := r21.at k (by omega)
  have hc28 := hc18 0 (.slice a24 (l.getD k []).length c25) (by simpa using hv23)
  simp only [Nat.add_zero] at hc28
  refine Ad S8 hc28 ?_
  refine Cs g_aumbry_code_Get ((get_ok S8.le r26 (by omega)).mono ?_)
  rintro e w30 ⟨rfl, hB29⟩
  have S31 := S8.call hB29
  refine ⟨_, rfl, trivial, ?_⟩
  iterate 5 refine Pv ?_
  refine T_nil (W_seq (Wr (P3 ?_)))
  refine Tn 28 (fun h32 => ?_) (fun h32 => ?_)
  ·iterate 7 refine No ?_
   refine Pv (T_nil ?_)
   refine W_cond_true rfl (Wr (P2 (T_nil (W_ret ?_))))
   refine ⟨_, ⟨_, _, rfl, rfl, ⟨_, _, rfl, rfl, rfl⟩⟩, ?_⟩
   exact nm_none (fun hq => by have h1 := hq k (by omega); have h2 := hM k; omega) S31.below
  iterate 2 (refine Ys ?_; refine Pv ?_)
  refine Ys ?_
  obtain ⟨hs36, r37, r38⟩ := (hv.mono hl3)
  refine Aj k r37 fun b33 o34 hc35 => ?_
  obtain ⟨a41, c42, hc44, hv40, r43⟩ := r38.at k (by omega)
  have hc45 := hc35 0 (.slice a41 (l.getD k []).length c42) (by simpa using hv40)
  simp only [Nat.add_zero] at hc45
  refine Ys ?_
  refine Ad S31 hc45 ?_
  iterate 3 (refine Ys ?_; refine Pv ?_)
  refine Pv (T_nil ?_)
  refine W_cond_not rfl (fun h46 => ?_) (fun h46 => ?_)
  ·refine Wr (P2 (T_nil (W_ret ?_)))
   refine ⟨_, ⟨_, _, rfl, rfl, ⟨_, _, rfl, rfl, rfl⟩⟩, ?_⟩
   exact nm_none (fun hq => by have h1 := hq k (by omega); have h2 := hM k; omega) S31.below
  refine W_skip (W_region ?_)
  have HW := h46
  have H7 := h32
  refine P2 ?_
  refine Ah (hone := by simp [Value.cells]; rfl) ([((getV (l.getD k []) : Nat) : Int)].map iV) fun a47 w48 hB49 ho50 => ?_
  have S51 := S31.own hB49 ho50
  refine ⟨trivial, ?_⟩
  have hD52 : (numL l k ++ [((getV (l.getD k []) : Nat) : Int)]) = numL l (k + 1) := (by rw [getV_yes H7]; exact numL_snoc l k)
  refine Ai (h1 := by exact one_iV _) (hn' := by first | rfl | (simp; done) | (simp; omega) | omega) (hx' := by rw [← hD52]; simp) (hbytes := by show _ * 8 ≤ _; omega) 1 (k + 1) ((numL l (k + 1)).map iV) S51 (S51.rd 0 rfl) fun a53 c54 w55 hc56 S57 => ?_
  refine Pv (T_nil (W_region ?_))
  refine Ar ?_
  refine Pv (T_nil ?_)
  have S58 := S57.drop 0
  exact ⟨m.length - (k + 1), [(0, .slice aa0 l.length cc0), (6, .slice a53 (k + 1) c54), (11, .slice aa1 m.length cc1), (12, .int .i64 ((m.length : Nat) : Int)), (13, .int .i64 ((k + 1 : Nat) : Int))], by omega, ⟨rfl, rfl, rfl, ciI, ciI, trivial⟩, k + 1, a53, c54, G2, rfl, (by omega), (by exact numOk_succ (by assumption) HW), rfl, hl3, S58, hc56⟩
 refine W_exit (Wr (P3 (T_nil (W_ret ?_))))
 refine ⟨_, ⟨_, _, rfl, rfl, ⟨_, _, rfl, rfl, rfl⟩⟩, ?_⟩
 obtain ⟨G60, hl61, S59, r62⟩ := S8.stillRow 0 rfl
 obtain rfl : k = m.length := by omega
 exact nm_some (by assumption) ((r62).mono S59.fin) S59.below


theorem kn_ok {H : Hp} {w : World} (hH : H.le (hw w)) (a b : Int) :
  Calls Tryz.prog 66 #[.int .i64 a, .int .i64 b] w fun e w' => e = .returned (.bool (decide (1 ≤ a ∧ a ≤ b ∧ b ≤ 16))) ∧ Below w.heap.size w w' := by
 refine enter2 _ Tryz.func66 rfl Tryz.ntmps66 Tryz.results66 rfl ?_
 have S0 := St.start w hH
 refine Wr (Pv (Nr ?_))
 refine P3 ?_
 refine Td 7 (fun h1 => ?_) (fun h1 => ?_)
 ·iterate 3 (refine Ys ?_; refine Pv ?_)
  refine P2 ?_
  refine Td 12 (fun h2 => ?_) (fun h2 => ?_)
  ·iterate 2 (refine Ys ?_; refine Pv ?_)
   refine P2 (T_nil (W_ret ?_))
   refine ⟨_, ⟨_, _, rfl, rfl, rfl⟩, ?_⟩
   exact ⟨by first | (rw [decide_eq_true (by omega)]; done) | (rw [decide_eq_false (by omega)]; rfl) | exact congrArg (fun z => Ending.returned (Value.bool z)) (decide_eq_decide.2 (by omega)), S0.below⟩
  iterate 2 refine No ?_
  refine P2 (T_nil (W_ret ?_))
  refine ⟨_, ⟨_, _, rfl, rfl, rfl⟩, ?_⟩
  exact ⟨by first | (rw [decide_eq_true (by omega)]; done) | (rw [decide_eq_false (by omega)]; rfl) | exact congrArg (fun z => Ending.returned (Value.bool z)) (decide_eq_decide.2 (by omega)), S0.below⟩
 iterate 3 refine No ?_
 refine P2 ?_
 iterate 2 refine No ?_
 refine P2 (T_nil (W_ret ?_))
 refine ⟨_, ⟨_, _, rfl, rfl, rfl⟩, ?_⟩
 exact ⟨by first | (rw [decide_eq_true (by omega)]; done) | (rw [decide_eq_false (by omega)]; rfl) | exact congrArg (fun z => Ending.returned (Value.bool z)) (decide_eq_decide.2 (by omega)), S0.below⟩


theorem hash_ok {H : Hp} {w : World} (hH : H.le (hw w)) {b : List UInt8} {aa0 : Option Addr} {nn0 cc0 : Nat} (hv : Rd H (.slice aa0 nn0 cc0) nn0 1 (b.map bV)) (h32 : b.length = 32) :
  Calls Tryz.prog 75 #[.slice aa0 nn0 cc0] w fun e w' => e = .returned (hV b) ∧ Below w.heap.size w w' := by
 obtain rfl : nn0 = b.length := hv.lenB
 have hvcap : b.length ≤ cc0 := hv.capOf
 refine Aa Tryz.func75 Tryz.ntmps75 Tryz.results75 ?_
 have S0 := St.start w hH
 refine Wr (Af S0 fun b1 w2 S3 => (Nr ?_))
 refine Af S3 fun b4 w5 S6 => (T_nil (W_seq (Wr ?_)))
 refine Pv (T_nil (W_block ?_))
 refine W_loop (fun M ρ w' => ∃ (k : Nat) (G7 : Hp), M = 32 - k ∧ k ≤ 32 ∧ ρ = [(0, .slice aa0 b.length cc0), (2, .pointer (some ⟨b1, 0, none⟩)), (3, .pointer (some ⟨b4, 0, none⟩)), (4, .int .i64 (k : Int))] ∧ H.le G7 ∧ St w H G7 [.blk b4 (hV (hashTo 32 b k) : Value).cells 27, .blk b1 (hV (List.replicate 32 0) : Value).cells 27] w')
  (32 - 0) [(0, .slice aa0 b.length cc0), (2, .pointer (some ⟨b1, 0, none⟩)), (3, .pointer (some ⟨b4, 0, none⟩)), (4, .int .i64 ((0 : Nat) : Int))] ⟨rfl, rfl, rfl, ciI, trivial⟩ ⟨0, H, rfl, (by omega), rfl, Hp.le.refl _, S6⟩ ?_
 rintro M ρ w9 ⟨k, G7, rfl, hp11, rfl, hl8, S10⟩
 refine W_seq (Wr ?_)
 iterate 5 refine Pv ?_
 refine Td 9 (fun h12 => ?_) (fun h12 => ?_)
 ·iterate 2 (refine Ys ?_; refine Pv ?_)
  refine Pv (T_nil ?_)
  refine Ab (fun h13 => ?_) (fun h13 => ?_)
  ·refine W_skip (W_seq (W_block (W_region (P3 ?_))))
   refine Aj k (hv.mono hl8) fun b14 o15 hc16 => ?_
   have hc17 := hc16 0 (bV (b.getD k 0)) (at_b b k (by omega))
   simp only [Nat.add_zero] at hc17
   refine Ad S10 hc17 ?_
   refine Ac (hz := by first | omega | decide) ?_
   refine T_store1S 0 k S10 (fun _ _ => trivial) rfl rfl rfl rfl rfl rfl rfl rfl rfl rfl rfl (by omega) (by have hz : (hV (hashTo 32 b k) : Value).cells.size = 32 := hVs (hashTo_len _ _ _); omega) fun w18 S19 => ?_
   rw [hashTo_put] at S19
   refine T_nil (W_region (Pv ?_))
   refine Ar ?_
   refine Pv (T_nil ?_)
   exact ⟨32 - (k + 1), [(0, .slice aa0 b.length cc0), (2, .pointer (some ⟨b1, 0, none⟩)), (3, .pointer (some ⟨b4, 0, none⟩)), (4, .int .i64 ((k + 1 : Nat) : Int))], by omega, ⟨rfl, rfl, rfl, ciI, trivial⟩, k + 1, G7, rfl, (by omega), rfl, hl8, S19⟩
  refine W_exit (Wr (An (hl := by exact hVs (hashTo_len _ _ _)) 0 S10 ?_))
  refine T_re (v' := hV b) (congrArg hV (by rw [show k = 32 by omega]; exact hashTo_full h32)) ?_
  refine Ak (hl := by exact hVs h32) (hl2 := by exact hVs h32) (h1 := by exact one_hA _) 1 S10 fun w20 S21 => (T_nil (W_ret ?_))
  refine ⟨_, ⟨_, _, _, rfl, rfl, run_loadVarA rfl rfl (hVs h32) (S21.cells 1 rfl), rfl⟩, ?_⟩
  exact ⟨rfl, S21.below⟩
 iterate 2 refine No ?_
 refine Pv (T_nil ?_)
 refine W_cond_false rfl (W_exit (Wr (An (hl := by exact hVs (hashTo_len _ _ _)) 0 S10 ?_)))
 refine T_re (v' := hV b) (congrArg hV (by rw [show k = 32 by omega]; exact hashTo_full h32)) ?_
 refine Ak (hl := by exact hVs h32) (hl2 := by exact hVs h32) (h1 := by exact one_hA _) 1 S10 fun w22 S23 => (T_nil (W_ret ?_))
 refine ⟨_, ⟨_, _, _, rfl, rfl, run_loadVarA rfl rfl (hVs h32) (S23.cells 1 rfl), rfl⟩, ?_⟩
 exact ⟨rfl, S23.below⟩

theorem six_len {b : List UInt8} {m0 m1 m2 m3 m4 m5 : Nat} (h0 : (Go.Au.six b 0).length = m0) (h1 : (Go.Au.six b 1).length = m1) (h2 : (Go.Au.six b 2).length = m2) (h3 : (Go.Au.six b 3).length = m3) (h4 : (Go.Au.six b 4).length = m4) (h5 : (Go.Au.six b 5).length = m5) : ((ntAll 6 b).getD 0 []).length = m0 ∧ ((ntAll 6 b).getD 1 []).length = m1 ∧ ((ntAll 6 b).getD 2 []).length = m2 ∧ ((ntAll 6 b).getD 3 []).length = m3 ∧ ((ntAll 6 b).getD 4 []).length = m4 ∧ ((ntAll 6 b).getD 5 []).length = m5 := ⟨h0, h1, h2, h3, h4, h5⟩

theorem ueb_text {b : List UInt8} (hb : b.length ≤ 1000) : (Go.Au.text [117, 101, 98] [b]).length < 10000 := by
 have h1 := net_le (b := [117, 101, 98]) (by decide)
 have h2 := net_le (b := b) (by omega)
 show (net [117, 101, 98] ++ nets [b]).length < _
 rw [List.length_append, nets_cons, List.length_append, nets_nil]
 simp only [List.length_nil, List.length_cons] at *
 omega
theorem u_no {b : List UInt8} (h : ¬ UebOk b) : Ending.returned (.tuple #[qV 0 0 0 0 (List.replicate 32 0) (List.replicate 32 0), .bool false]) = .returned (.tuple #[qV (uN b 0) (uN b 1) (uN b 2) (uN b 3) (uH b 4) (uH b 5), .bool (decide (UebOk b))]) := by
 rw [decide_eq_false h, uN_no h, uN_no h, uN_no h, uN_no h, uH_no h, uH_no h]
theorem u_yes {b : List UInt8} (h : UebOk b) : Ending.returned (.tuple #[qV ((Go.Au.be (Go.Au.six b 0) : Nat) : Int) ((Go.Au.be (Go.Au.six b 1) : Nat) : Int) ((Go.Au.be (Go.Au.six b 2) : Nat) : Int) ((Go.Au.be (Go.Au.six b 3) : Nat) : Int) (Go.Au.six b 4) (Go.Au.six b 5), .bool true]) = .returned (.tuple #[qV (uN b 0) (uN b 1) (uN b 2) (uN b 3) (uH b 4) (uH b 5), .bool (decide (UebOk b))]) := by
 rw [decide_eq_true h, uN_yes h, uN_yes h, uN_yes h, uN_yes h, uH_yes h, uH_yes h]
theorem num4 {L : List (List UInt8)} {w0 w1 w2 w3 : Nat} (h0 : (L.getD 0 []).length = w0) (h1 : (L.getD 1 []).length = w1) (h2 : (L.getD 2 []).length = w2) (h3 : (L.getD 3 []).length = w3) : numOk L [(w0 : Int), (w1 : Int), (w2 : Int), (w3 : Int)] 4 := by
 intro i hi
 match i, hi with
 | 0, _ => exact congrArg Int.ofNat h0
 | 1, _ => exact congrArg Int.ofNat h1
 | 2, _ => exact congrArg Int.ofNat h2
 | 3, _ => exact congrArg Int.ofNat h3
theorem numU {b : List UInt8} (h0 : (Go.Au.six b 0).length = 1) (h1 : (Go.Au.six b 1).length = 1) (h2 : (Go.Au.six b 2).length = 4) (h3 : (Go.Au.six b 3).length = 4) : numOk (ntAll 6 b) [(1 : Int), (1 : Int), (4 : Int), (4 : Int)] [(1 : Int), (1 : Int), (4 : Int), (4 : Int)].length := num4 h0 h1 h2 h3
theorem w7u : ∀ i, ([(1 : Int), (1 : Int), (4 : Int), (4 : Int)] : List Int).getD i 0 ≤ 7 := by
 intro i
 match i with
 | 0 => decide
 | 1 => decide
 | 2 => decide
 | 3 => decide
 | i + 4 => simp
theorem bytesEqual_ok {H : Hp} {w : World} (hH : H.le (hw w)) {b : List UInt8} {aa0 : Option Addr} {nn0 cc0 : Nat} (hv : Rd H (.slice aa0 nn0 cc0) nn0 1 (b.map bV)) {c : List UInt8} {aa1 : Option Addr} {nn1 cc1 : Nat} (hu : Rd H (.slice aa1 nn1 cc1) nn1 1 (c.map bV)) :
  Calls Tryz.prog 64 #[.slice aa0 nn0 cc0, .slice aa1 nn1 cc1] w fun e w' => e = .returned (.bool (decide (b = c))) ∧ Below w.heap.size w w' := by
 obtain rfl : nn0 = b.length := hv.lenB
 have hvcap : b.length ≤ cc0 := hv.capOf
 obtain rfl : nn1 = c.length := hu.lenB
 have hucap : c.length ≤ cc1 := hu.capOf
 refine enter2 _ Tryz.func64 rfl Tryz.ntmps64 Tryz.results64 rfl ?_
 have S0 := St.start w hH
 refine Wr (Pv (Nr ?_))
 refine Pv ?_
 refine T_convG S0 hv rfl rfl rfl rfl rfl rfl rfl rfl rfl (Pv ?_)
 refine T_convG S0 hu rfl rfl rfl rfl rfl rfl rfl rfl rfl (T_streq rfl rfl rfl rfl rfl rfl (Pv (T_nil (W_ret ?_))))
 refine ⟨_, ⟨_, _, rfl, rfl, rfl⟩, ?_⟩
 exact ⟨rfl, S0.below⟩


theorem print_ok {H : Hp} {w : World} (hH : H.le (hw w)) (hT : Tabs H) {b : List UInt8} {aa0 : Option Addr} {nn0 cc0 : Nat} (hv : Rd H (.slice aa0 nn0 cc0) nn0 1 (b.map bV)) (hb : b.length ≤ 1000) :
  Calls Tryz.prog 26 #[.slice aa0 nn0 cc0] w fun e w' => e = .returned (hV (tagged [117, 101, 98] [b])) ∧ Below w.heap.size w w' := by
 obtain rfl : nn0 = b.length := hv.lenB
 have hvcap : b.length ≤ cc0 := hv.capOf
 have htx := ueb_text hb
 refine Aa Tryz.func26 Tryz.ntmps26 Tryz.results26 ?_
 have S0 := St.start w hH
 refine Wr (Af S0 fun b1 w2 S3 => (Nr ?_))
 refine Pv ?_
 have rs8 : Rds H [.slice aa0 b.length cc0] [b] := Rds.cons (Rd.canonB hv) (Rds.nil _)
 refine Ah (hone := by simp [Value.cells]; rfl) [.slice aa0 b.length cc0] fun a4 w5 hB6 ho7 => ?_
 have S9 := S3.own hB6 ho7
 refine ⟨trivial, ?_⟩
 obtain ⟨G11, hl12, S10, r13⟩ := S9.stillRow 0 rfl
 have r14 := RdL.mk r13 (rs8.mono hl12)
 refine Cs g_aumbry_sha_Tagged ((tagged_ok S10.le (hT.mono hl12) r14 (by omega)).mono ?_)
 rintro e w16 ⟨rfl, hB15⟩
 have S17 := S10.call hB15
 refine ⟨_, rfl, trivial, ?_⟩
 refine Ak (hl := by exact hVs (tagged_len _ _)) (hl2 := by exact hVs (tagged_len _ _)) (h1 := by exact one_hA _) 0 S17 fun w18 S19 => (T_nil (W_ret ?_))
 refine ⟨_, ⟨_, _, _, rfl, rfl, run_loadVarA rfl rfl (hVs (tagged_len _ _)) (S19.cells 0 rfl), rfl⟩, ?_⟩
 exact ⟨rfl, S19.below⟩


theorem printR_ok {H : Hp} {w : World} (hH : H.le (hw w)) {b : List UInt8} {aa0 : Option Addr} {nn0 cc0 : Nat} (hv : Rd H (.slice aa0 nn0 cc0) nn0 1 (b.map bV)) (hb : b.length ≤ 1000) :
  Calls Tryz.prog 31 #[.slice aa0 nn0 cc0] w fun e w' => e = .returned (hV (tagged [117, 101, 98] [b])) ∧ Below w.heap.size w w' := by
 obtain rfl : nn0 = b.length := hv.lenB
 have hvcap : b.length ≤ cc0 := hv.capOf
 have htx := ueb_text hb
 refine Aa Tryz.func31 Tryz.ntmps31 Tryz.results31 ?_
 have S0 := St.start w hH
 refine Wr (Af S0 fun b1 w2 S3 => (Nr ?_))
 refine Pv ?_
 have rs8 : Rds H [.slice aa0 b.length cc0] [b] := Rds.cons (Rd.canonB hv) (Rds.nil _)
 refine Ah (hone := by simp [Value.cells]; rfl) [.slice aa0 b.length cc0] fun a4 w5 hB6 ho7 => ?_
 have S9 := S3.own hB6 ho7
 refine ⟨trivial, ?_⟩
 obtain ⟨G11, hl12, S10, r13⟩ := S9.stillRow 0 rfl
 have r14 := RdL.mk r13 (rs8.mono hl12)
 refine Cs g_aumbry_aumbryref01_Tagged ((taggedR_ok S10.le r14 (by omega)).mono ?_)
 rintro e w16 ⟨rfl, hB15⟩
 have S17 := S10.call hB15
 refine ⟨_, rfl, trivial, ?_⟩
 refine Ak (hl := by exact hVs (tagged_len _ _)) (hl2 := by exact hVs (tagged_len _ _)) (h1 := by exact one_hA _) 0 S17 fun w18 S19 => (T_nil (W_ret ?_))
 refine ⟨_, ⟨_, _, _, rfl, rfl, run_loadVarA rfl rfl (hVs (tagged_len _ _)) (S19.cells 0 rfl), rfl⟩, ?_⟩
 exact ⟨rfl, S19.below⟩


theorem packU_ok {H : Hp} {w : World} (hH : H.le (hw w)) (hT : Tabs H) (p q r u : Int) {s t : List UInt8} (hs : s.length = 32) (ht : t.length = 32) (ha : p ≤ 9223372036854775807) (hb : q ≤ 9223372036854775807) (hc : r ≤ 9223372036854775807) (hd : u ≤ 9223372036854775807) :
  Calls Tryz.prog 65 #[qV p q r u s t] w fun e w' => ∃ a c, (packU p q r u s t).length ≤ c ∧ e = .returned (.slice a (packU p q r u s t).length c) ∧ rowZ w' w.heap.size 5 1 (.slice a (packU p q r u s t).length c) (packU p q r u s t).length ((packU p q r u s t).map bV) ∧ Below w.heap.size w w' := by
 have hlen := packU_len p q r u (s := s) (t := t) (by omega) (by omega)
 unfold packU at hlen
 refine Aa Tryz.func65 Tryz.ntmps65 Tryz.results65 ?_
 have S0 := St.start w hH
 refine Wr (Ao S0 fun b1 w2 S3 => ?_)
 refine Pv (T_nil (W_seq ?_))
 obtain ⟨G5, hl6, S4, r7⟩ := S3.stillBlk 0 rfl
 refine W_plan (planF Tryz.prog G5 [7, 10, 13]) rfl (by kernel_rfl) S4.le ?_
 have S8 := S4.drew
 refine Fl 0 ?_
 refine Ad S8 (still_cell r7 qV_0) ?_
 refine Cs g_aumbry_code_Put ((putN_ok S8.le p 1 (by omega) (by omega)).mono ?_)
 rintro e w14 ⟨a9, c10, hc11, rfl, ho12, hB13⟩
 have S15 := S8.own hB13 ho12
 refine ⟨_, rfl, (((Hp.le.refl _)).trans S15.le), ?_⟩
 refine Fl 1 ?_
 refine Am (still_cell r7 qV_1) ?_
 refine Cs g_aumbry_code_Put ((putN_ok S15.le q 1 (by omega) (by omega)).mono ?_)
 rintro e w21 ⟨a16, c17, hc18, rfl, ho19, hB20⟩
 have S22 := S15.own hB20 ho19
 refine ⟨_, rfl, (((Hp.le.refl _)).trans S22.le), ?_⟩
 refine Fl 2 ?_
 refine Am (still_cell r7 qV_2) ?_
 refine Cs g_aumbry_code_Put ((putN_ok S22.le r 4 (by omega) (by omega)).mono ?_)
 rintro e w28 ⟨a23, c24, hc25, rfl, ho26, hB27⟩
 have S29 := S22.own hB27 ho26
 refine ⟨_, rfl, (((Hp.le.refl _)).trans S29.le), ?_⟩
 refine Fl 3 ?_
 refine Am (still_cell r7 qV_3) ?_
 refine Cs g_aumbry_code_Put ((putN_ok S29.le u 4 (by omega) (by omega)).mono ?_)
 rintro e w35 ⟨a30, c31, hc32, rfl, ho33, hB34⟩
 have S36 := S29.own hB34 ho33
 refine ⟨_, rfl, (((Hp.le.refl _)).trans S36.le), ?_⟩
 refine Fl 4 ?_
 refine T_sliceAll rfl rfl rfl rfl rfl rfl rfl rfl ?_
 have r37 := Rd.of_blk_at (off := 4) (m := 32) (c0 := 32) (size := 1) (xs := s.map bV) r7 (by rw [List.length_map, hs]) (Nat.le_refl _) (fun j u hu => qV_s j u (by simpa using hu))
 refine Fl 36 ?_
 refine T_sliceAll rfl rfl rfl rfl rfl rfl rfl rfl ?_
 have r38 := Rd.of_blk_at (off := 36) (m := 32) (c0 := 32) (size := 1) (xs := t.map bV) r7 (by rw [List.length_map, ht]) (Nat.le_refl _) (fun j u hu => (qV_t (by rw [hs])) j u (by simpa using hu))
 obtain ⟨G44, hl45, S43, r46⟩ := S36.stillRow 3 rfl
 obtain ⟨G48, hl49, S47, r50⟩ := S43.stillRow 2 rfl
 obtain ⟨G52, hl53, S51, r54⟩ := S47.stillRow 1 rfl
 obtain ⟨G56, hl57, S55, r58⟩ := S51.stillRow 0 rfl
 have rs59 : Rds G56 [.slice a9 ((Go.Sha.put (max 0 p).toNat 1).length) c10, .slice a16 ((Go.Sha.put (max 0 q).toNat 1).length) c17, .slice a23 ((Go.Sha.put (max 0 r).toNat 4).length) c24, .slice a30 ((Go.Sha.put (max 0 u).toNat 4).length) c31, .slice (some ⟨b1, 4, none⟩) 32 32, .slice (some ⟨b1, 36, none⟩) 32 32] [Go.Sha.put (max 0 p).toNat 1, Go.Sha.put (max 0 q).toNat 1, Go.Sha.put (max 0 r).toNat 4, Go.Sha.put (max 0 u).toNat 4, s, t] := Rds.cons (Rd.canonB (r46.mono (hl49.trans (hl53.trans hl57)))) (Rds.cons (Rd.canonB (r50.mono (hl53.trans hl57))) (Rds.cons (Rd.canonB (r54.mono hl57)) (Rds.cons (Rd.canonB r58) (Rds.cons (Rd.canonB (r37.mono (hl45.trans (hl49.trans (hl53.trans hl57))))) (Rds.cons (Rd.canonB (r38.mono (hl45.trans (hl49.trans (hl53.trans hl57))))) (Rds.nil _))))))
 refine Ah (hone := by simp [Value.cells]; rfl) [.slice a9 ((Go.Sha.put (max 0 p).toNat 1).length) c10, .slice a16 ((Go.Sha.put (max 0 q).toNat 1).length) c17, .slice a23 ((Go.Sha.put (max 0 r).toNat 4).length) c24, .slice a30 ((Go.Sha.put (max 0 u).toNat 4).length) c31, .slice (some ⟨b1, 4, none⟩) 32 32, .slice (some ⟨b1, 36, none⟩) 32 32] fun a39 w40 hB41 ho42 => ?_
 have S60 := S55.own hB41 ho42
 refine ⟨(((hl45.trans (hl49.trans (hl53.trans hl57)))).trans S60.le), ?_⟩
 obtain ⟨G62, hl63, S61, r64⟩ := S60.stillRow 0 rfl
 have r65 := RdL.mk r64 (rs59.mono hl63)
 refine Cs g_aumbry_code_Nets ((nets_ok S61.le (hT.mono (hl6.trans (hl45.trans (hl49.trans (hl53.trans (hl57.trans hl63)))))) r65 (by omega)).mono ?_)
 rintro e w71 ⟨a66, c67, hc68, rfl, ho69, hB70⟩
 have S72 := S61.own hB70 ho69
 refine ⟨_, rfl, (((hl45.trans (hl49.trans (hl53.trans (hl57.trans hl63))))).trans S72.le), ?_⟩
 refine Pv (T_nil (W_ret ?_))
 refine ⟨_, ⟨_, _, rfl, rfl, rfl⟩, ?_⟩
 exact ⟨_, _, hc68, rfl, S72.row 0 rfl, S72.below⟩


theorem packUR_ok {H : Hp} {w : World} (hH : H.le (hw w)) (p q r u : Int) {s t : List UInt8} (hs : s.length = 32) (ht : t.length = 32) (ha : p ≤ 9223372036854775807) (hb : q ≤ 9223372036854775807) (hc : r ≤ 9223372036854775807) (hd : u ≤ 9223372036854775807) :
  Calls Tryz.prog 100 #[qV p q r u s t] w fun e w' => ∃ a c, (packU p q r u s t).length ≤ c ∧ e = .returned (.slice a (packU p q r u s t).length c) ∧ rowZ w' w.heap.size 5 1 (.slice a (packU p q r u s t).length c) (packU p q r u s t).length ((packU p q r u s t).map bV) ∧ Below w.heap.size w w' := by
 have hlen := packU_len p q r u (s := s) (t := t) (by omega) (by omega)
 unfold packU at hlen
 refine Aa Tryz.func100 Tryz.ntmps100 Tryz.results100 ?_
 have S0 := St.start w hH
 refine Wr (Ao S0 fun b1 w2 S3 => ?_)
 refine Pv (T_nil (W_seq ?_))
 obtain ⟨G5, hl6, S4, r7⟩ := S3.stillBlk 0 rfl
 refine W_plan (planF Tryz.prog G5 [7, 10, 13]) rfl (by kernel_rfl) S4.le ?_
 have S8 := S4.drew
 refine Fl 0 ?_
 refine Ad S8 (still_cell r7 qV_0) ?_
 refine Cs g_aumbry_aumbryref01_Put ((putR_ok S8.le p 1 (by omega) (by omega)).mono ?_)
 rintro e w14 ⟨a9, c10, hc11, rfl, ho12, hB13⟩
 have S15 := S8.own hB13 ho12
 refine ⟨_, rfl, (((Hp.le.refl _)).trans S15.le), ?_⟩
 refine Fl 1 ?_
 refine Am (still_cell r7 qV_1) ?_
 refine Cs g_aumbry_aumbryref01_Put ((putR_ok S15.le q 1 (by omega) (by omega)).mono ?_)
 rintro e w21 ⟨a16, c17, hc18, rfl, ho19, hB20⟩
 have S22 := S15.own hB20 ho19
 refine ⟨_, rfl, (((Hp.le.refl _)).trans S22.le), ?_⟩
 refine Fl 2 ?_
 refine Am (still_cell r7 qV_2) ?_
 refine Cs g_aumbry_aumbryref01_Put ((putR_ok S22.le r 4 (by omega) (by omega)).mono ?_)
 rintro e w28 ⟨a23, c24, hc25, rfl, ho26, hB27⟩
 have S29 := S22.own hB27 ho26
 refine ⟨_, rfl, (((Hp.le.refl _)).trans S29.le), ?_⟩
 refine Fl 3 ?_
 refine Am (still_cell r7 qV_3) ?_
 refine Cs g_aumbry_aumbryref01_Put ((putR_ok S29.le u 4 (by omega) (by omega)).mono ?_)
 rintro e w35 ⟨a30, c31, hc32, rfl, ho33, hB34⟩
 have S36 := S29.own hB34 ho33
 refine ⟨_, rfl, (((Hp.le.refl _)).trans S36.le), ?_⟩
 refine Fl 4 ?_
 refine T_sliceAll rfl rfl rfl rfl rfl rfl rfl rfl ?_
 have r37 := Rd.of_blk_at (off := 4) (m := 32) (c0 := 32) (size := 1) (xs := s.map bV) r7 (by rw [List.length_map, hs]) (Nat.le_refl _) (fun j u hu => qV_s j u (by simpa using hu))
 refine Fl 36 ?_
 refine T_sliceAll rfl rfl rfl rfl rfl rfl rfl rfl ?_
 have r38 := Rd.of_blk_at (off := 36) (m := 32) (c0 := 32) (size := 1) (xs := t.map bV) r7 (by rw [List.length_map, ht]) (Nat.le_refl _) (fun j u hu => (qV_t (by rw [hs])) j u (by simpa using hu))
 obtain ⟨G44, hl45, S43, r46⟩ := S36.stillRow 3 rfl
 obtain ⟨G48, hl49, S47, r50⟩ := S43.stillRow 2 rfl
 obtain ⟨G52, hl53, S51, r54⟩ := S47.stillRow 1 rfl
 obtain ⟨G56, hl57, S55, r58⟩ := S51.stillRow 0 rfl
 have rs59 : Rds G56 [.slice a9 ((Go.Sha.put (max 0 p).toNat 1).length) c10, .slice a16 ((Go.Sha.put (max 0 q).toNat 1).length) c17, .slice a23 ((Go.Sha.put (max 0 r).toNat 4).length) c24, .slice a30 ((Go.Sha.put (max 0 u).toNat 4).length) c31, .slice (some ⟨b1, 4, none⟩) 32 32, .slice (some ⟨b1, 36, none⟩) 32 32] [Go.Sha.put (max 0 p).toNat 1, Go.Sha.put (max 0 q).toNat 1, Go.Sha.put (max 0 r).toNat 4, Go.Sha.put (max 0 u).toNat 4, s, t] := Rds.cons (Rd.canonB (r46.mono (hl49.trans (hl53.trans hl57)))) (Rds.cons (Rd.canonB (r50.mono (hl53.trans hl57))) (Rds.cons (Rd.canonB (r54.mono hl57)) (Rds.cons (Rd.canonB r58) (Rds.cons (Rd.canonB (r37.mono (hl45.trans (hl49.trans (hl53.trans hl57))))) (Rds.cons (Rd.canonB (r38.mono (hl45.trans (hl49.trans (hl53.trans hl57))))) (Rds.nil _))))))
 refine Ah (hone := by simp [Value.cells]; rfl) [.slice a9 ((Go.Sha.put (max 0 p).toNat 1).length) c10, .slice a16 ((Go.Sha.put (max 0 q).toNat 1).length) c17, .slice a23 ((Go.Sha.put (max 0 r).toNat 4).length) c24, .slice a30 ((Go.Sha.put (max 0 u).toNat 4).length) c31, .slice (some ⟨b1, 4, none⟩) 32 32, .slice (some ⟨b1, 36, none⟩) 32 32] fun a39 w40 hB41 ho42 => ?_
 have S60 := S55.own hB41 ho42
 refine ⟨(((hl45.trans (hl49.trans (hl53.trans hl57)))).trans S60.le), ?_⟩
 obtain ⟨G62, hl63, S61, r64⟩ := S60.stillRow 0 rfl
 have r65 := RdL.mk r64 (rs59.mono hl63)
 refine Cs g_aumbry_aumbryref01_Nets ((netsR_ok S61.le r65 (by omega)).mono ?_)
 rintro e w71 ⟨a66, c67, hc68, rfl, ho69, hB70⟩
 have S72 := S61.own hB70 ho69
 refine ⟨_, rfl, (((hl45.trans (hl49.trans (hl53.trans (hl57.trans hl63))))).trans S72.le), ?_⟩
 refine Pv (T_nil (W_ret ?_))
 refine ⟨_, ⟨_, _, rfl, rfl, rfl⟩, ?_⟩
 exact ⟨_, _, hc68, rfl, S72.row 0 rfl, S72.below⟩


theorem may_ok {H : Hp} {w : World} (hH : H.le (hw w)) (p q r u : Int) {s t : List UInt8} (hs : s.length = 32) (ht : t.length = 32) :
  Calls Tryz.prog 63 #[qV p q r u s t] w fun e w' => e = .returned (.bool (decide ((1 ≤ p ∧ p ≤ q ∧ q ≤ 16) ∧ 1 ≤ r ∧ r ≤ 1024 ∧ u = 64))) ∧ Below w.heap.size w w' := by
 refine Aa Tryz.func63 Tryz.ntmps63 Tryz.results63 ?_
 have S0 := St.start w hH
 refine Wr (Ao S0 fun b1 w2 S3 => ?_)
 refine Pv (Nr ?_)
 refine Fl 0 ?_
 refine Ap 0 0 S3 qV_0 ?_
 refine Fl 1 ?_
 refine Ap 0 1 S3 qV_1 ?_
 refine Cs g_aumbry_layout_kn ((kn_ok S3.le p q).mono ?_)
 rintro e w5 ⟨rfl, hB4⟩
 have S6 := S3.call hB4
 refine ⟨_, rfl, trivial, ?_⟩
 refine Pv ?_
 refine Td 8 (fun h7 => ?_) (fun h7 => ?_)
 ·refine Ys ?_
  refine Fl 2 ?_
  refine Ys ?_
  refine Ap 0 2 S6 qV_2 ?_
  refine Ys ?_
  refine P3 ?_
  refine Td 13 (fun h8 => ?_) (fun h8 => ?_)
  ·refine Ys ?_
   refine Fl 2 ?_
   refine Ys ?_
   refine Ap 0 2 S6 qV_2 ?_
   refine Ys ?_
   refine P3 ?_
   refine Td 18 (fun h9 => ?_) (fun h9 => ?_)
   ·refine Ys ?_
    refine Fl 3 ?_
    refine Ys ?_
    refine Ap 0 3 S6 qV_3 ?_
    refine Ys ?_
    refine P3 (T_nil (W_ret ?_))
    refine ⟨_, ⟨_, _, rfl, rfl, rfl⟩, ?_⟩
    exact ⟨congrArg (fun z => Ending.returned (Value.bool z)) (by first | (exact (decide_eq_true (by omega)).symm) | (exact (decide_eq_false (by omega)).symm) | exact decide_eq_decide.2 (by omega)), S6.below⟩
   iterate 3 refine No ?_
   refine P2 (T_nil (W_ret ?_))
   refine ⟨_, ⟨_, _, rfl, rfl, rfl⟩, ?_⟩
   exact ⟨congrArg (fun z => Ending.returned (Value.bool z)) (by first | (exact (decide_eq_true (by omega)).symm) | (exact (decide_eq_false (by omega)).symm) | exact decide_eq_decide.2 (by omega)), S6.below⟩
  iterate 2 (refine No ?_; refine No ?_; refine No ?_; refine Pv ?_; refine Pv ?_)
  refine T_nil (W_ret ?_)
  refine ⟨_, ⟨_, _, rfl, rfl, rfl⟩, ?_⟩
  exact ⟨congrArg (fun z => Ending.returned (Value.bool z)) (by first | (exact (decide_eq_true (by omega)).symm) | (exact (decide_eq_false (by omega)).symm) | exact decide_eq_decide.2 (by omega)), S6.below⟩
 iterate 3 (refine No ?_; refine No ?_; refine No ?_; refine Pv ?_; refine Pv ?_)
 refine T_nil (W_ret ?_)
 refine ⟨_, ⟨_, _, rfl, rfl, rfl⟩, ?_⟩
 exact ⟨congrArg (fun z => Ending.returned (Value.bool z)) (by first | (exact (decide_eq_true (by omega)).symm) | (exact (decide_eq_false (by omega)).symm) | exact decide_eq_decide.2 (by omega)), S6.below⟩


theorem unpackU_ok {H : Hp} {w : World} (hH : H.le (hw w)) (hT : Tabs H) {b : List UInt8} {aa0 : Option Addr} {nn0 cc0 : Nat} (hv : Rd H (.slice aa0 nn0 cc0) nn0 1 (b.map bV)) (hb : b.length ≤ 10000) :
  Calls Tryz.prog 24 #[.slice aa0 nn0 cc0] w fun e w' => e = .returned (.tuple #[qV (uN b 0) (uN b 1) (uN b 2) (uN b 3) (uH b 4) (uH b 5), .bool (decide (UebOk b))]) ∧ Below w.heap.size w w' := by
 obtain rfl : nn0 = b.length := hv.lenB
 have hvcap : b.length ≤ cc0 := hv.capOf
 refine Aa Tryz.func24 Tryz.ntmps24 Tryz.results24 ?_
 have S0 := St.start w hH
 refine Wr (Af S0 fun b1 w2 S3 => ?_)
 refine Pv (Nr ?_)
 refine Pv ?_
 refine Cs g_aumbry_code_TakeNets ((takeNets_ok S3.le hv 6 (by omega) (by omega)).mono ?_)
 rintro e w8 ⟨a4, c5, rfl, r6, hB7⟩
 obtain ⟨G10, eG12⟩ : ∃ G, G = F.ext H w2.heap.size w8 := ⟨_, rfl⟩
 obtain ⟨hl11, S9⟩ := S3.ext hB7
 rw [← eG12] at hl11 S9 r6
 refine ⟨_, rfl, trivial, ?_⟩
 iterate 5 refine Pv ?_
 refine T_nil (W_seq (Wr (P3 ?_)))
 refine Tn 15 (fun h13 => ?_) (fun h13 => ?_)
 ·iterate 5 refine No ?_
  refine P2 ?_
  iterate 5 refine No ?_
  refine Pv (T_nil ?_)
  refine W_cond_true rfl (Wr (Ag (cells := (qz32 : Value).cells) ?_))
  refine Ak (hl := by exact qs32) (hl2 := by exact qs32) (h1 := by exact qV_one) 0 S9 fun w14 S15 => ?_
  refine Pv (T_nil (W_ret ?_))
  refine ⟨_, ⟨_, _, _, rfl, rfl, run_loadVarA rfl rfl (qs32) (S15.cells 0 rfl), ⟨_, _, rfl, rfl, rfl⟩⟩, ?_⟩
  have HNO : ¬ UebOk b := by
   intro hq
   obtain ⟨q0, q1, q2, q3, q4, q5, q6, q7, q8, q9, q10, q11, q12⟩ := hq
   obtain ⟨e0, e1, e2, e3, e4, e5⟩ := six_len q1 q2 q3 q4 q5 q6
   first | exact h13 q0 | omega | exact h13 (numU q1 q2 q3 q4) | exact h13 (packU_six q0 q1 q2 q3 q4)
  exact ⟨u_no HNO, S15.below⟩
 refine Ys ?_
 have HA := h13
 have hn6 := ntAll_len HA
 refine Pv ?_
 refine Ys ?_
 obtain ⟨hs19, r20, r21⟩ := (id r6)
 refine Aj 4 r20 fun b16 o17 hc18 => ?_
 obtain ⟨a24, c25, hc27, hv23, r26⟩ := r21.at 4 (by omega)
 have hc28 := hc18 0 (.slice a24 ((ntAll 6 b).getD 4 []).length c25) (by simpa using hv23)
 simp only [Nat.add_zero] at hc28
 refine Ys ?_
 refine Ad S9 hc28 ?_
 iterate 2 (refine Ys ?_; refine Pv ?_)
 refine P2 ?_
 refine Tn 22 (fun h29 => ?_) (fun h29 => ?_)
 ·iterate 5 refine No ?_
  refine Pv (T_nil ?_)
  refine W_cond_true rfl (Wr (Ag (cells := (qz32 : Value).cells) ?_))
  refine Ak (hl := by exact qs32) (hl2 := by exact qs32) (h1 := by exact qV_one) 0 S9 fun w30 S31 => ?_
  refine Pv (T_nil (W_ret ?_))
  refine ⟨_, ⟨_, _, _, rfl, rfl, run_loadVarA rfl rfl (qs32) (S31.cells 0 rfl), ⟨_, _, rfl, rfl, rfl⟩⟩, ?_⟩
  have HNO : ¬ UebOk b := by
   intro hq
   obtain ⟨q0, q1, q2, q3, q4, q5, q6, q7, q8, q9, q10, q11, q12⟩ := hq
   obtain ⟨e0, e1, e2, e3, e4, e5⟩ := six_len q1 q2 q3 q4 q5 q6
   first | exact h29 q0 | omega | exact h29 (numU q1 q2 q3 q4) | exact h29 (packU_six q0 q1 q2 q3 q4)
  exact ⟨u_no HNO, S31.below⟩
 refine Ys ?_
 refine Pv ?_
 refine Ys ?_
 obtain ⟨hs35, r36, r37⟩ := (id r6)
 refine Aj 5 r36 fun b32 o33 hc34 => ?_
 obtain ⟨a40, c41, hc43, hv39, r42⟩ := r37.at 5 (by omega)
 have hc44 := hc34 0 (.slice a40 ((ntAll 6 b).getD 5 []).length c41) (by simpa using hv39)
 simp only [Nat.add_zero] at hc44
 refine Ys ?_
 refine Ad S9 hc44 ?_
 iterate 2 (refine Ys ?_; refine Pv ?_)
 refine Pv (T_nil ?_)
 refine W_cond_not rfl (fun h45 => ?_) (fun h45 => ?_)
 ·refine Wr (Ag (cells := (qz32 : Value).cells) ?_)
  refine Ak (hl := by exact qs32) (hl2 := by exact qs32) (h1 := by exact qV_one) 0 S9 fun w46 S47 => ?_
  refine Pv (T_nil (W_ret ?_))
  refine ⟨_, ⟨_, _, _, rfl, rfl, run_loadVarA rfl rfl (qs32) (S47.cells 0 rfl), ⟨_, _, rfl, rfl, rfl⟩⟩, ?_⟩
  have HNO : ¬ UebOk b := by
   intro hq
   obtain ⟨q0, q1, q2, q3, q4, q5, q6, q7, q8, q9, q10, q11, q12⟩ := hq
   obtain ⟨e0, e1, e2, e3, e4, e5⟩ := six_len q1 q2 q3 q4 q5 q6
   first | exact h45 q0 | omega | exact h45 (numU q1 q2 q3 q4) | exact h45 (packU_six q0 q1 q2 q3 q4)
  exact ⟨u_no HNO, S47.below⟩
 refine W_skip (Wr (Pv ?_))
 refine Ah (hone := by simp [Value.cells]; rfl) ([(1 : Int), (1 : Int), (4 : Int), (4 : Int)].map iV) fun a48 w49 hB50 ho51 => ?_
 have S52 := S9.own hB50 ho51
 refine ⟨trivial, ?_⟩
 obtain ⟨G54, hl55, S53, r56⟩ := S52.stillRow 0 rfl
 refine Cs g_aumbry_layout_nums ((nums_ok S53.le (l := (ntAll 6 b)) (m := ([(1 : Int), (1 : Int), (4 : Int), (4 : Int)])) (r6.mono hl55) r56 (by show 4 ≤ _; omega) (by show 4 ≤ 10; omega) w7u (fun x hx => by have := ntAll_el 6 b x hx; omega)).mono ?_)
 rintro e w61 ⟨a57, c58, rfl, r59, hB60⟩
 obtain ⟨G63, eG65⟩ : ∃ G, G = F.ext G54 w49.heap.size w61 := ⟨_, rfl⟩
 obtain ⟨hl64, S62⟩ := S53.ext hB60
 rw [← eG65] at hl64 S62 r59
 refine ⟨_, rfl, trivial, ?_⟩
 iterate 5 refine Pv ?_
 refine T_nil (W_seq (Wr (P2 (T_nil ?_))))
 refine W_cond_not rfl (fun h66 => ?_) (fun h66 => ?_)
 ·refine Wr (Ag (cells := (qz32 : Value).cells) ?_)
  refine Ak (hl := by exact qs32) (hl2 := by exact qs32) (h1 := by exact qV_one) 0 S62 fun w67 S68 => ?_
  refine Pv (T_nil (W_ret ?_))
  refine ⟨_, ⟨_, _, _, rfl, rfl, run_loadVarA rfl rfl (qs32) (S68.cells 0 rfl), ⟨_, _, rfl, rfl, rfl⟩⟩, ?_⟩
  have HNO : ¬ UebOk b := by
   intro hq
   obtain ⟨q0, q1, q2, q3, q4, q5, q6, q7, q8, q9, q10, q11, q12⟩ := hq
   obtain ⟨e0, e1, e2, e3, e4, e5⟩ := six_len q1 q2 q3 q4 q5 q6
   first | exact h66 q0 | omega | exact h66 (numU q1 q2 q3 q4) | exact h66 (packU_six q0 q1 q2 q3 q4)
  exact ⟨u_no HNO, S68.below⟩
 refine W_skip (W_seq (W_plan (planF Tryz.prog G63 [41, 44, 47, 50, 53, 54, 55, 58, 59, 60]) rfl (by kernel_rfl) S62.le ?_))
 have S69 := S62.drew
 refine Pv ?_
 have HN := h66
 have hn4 : (numA (ntAll 6 b) [(1 : Int), (1 : Int), (4 : Int), (4 : Int)]).length = 4 := by rw [numA_yes HN, numL_len]; rfl
 have HQ0 : (Go.Au.six b 0).length = 1 := by have h : (((ntAll 6 b).getD 0 []).length : Int) = 1 := HN 0 (by decide); show ((ntAll 6 b).getD 0 []).length = _; omega
 have HQ1 : (Go.Au.six b 1).length = 1 := by have h : (((ntAll 6 b).getD 1 []).length : Int) = 1 := HN 1 (by decide); show ((ntAll 6 b).getD 1 []).length = _; omega
 have HQ2 : (Go.Au.six b 2).length = 4 := by have h : (((ntAll 6 b).getD 2 []).length : Int) = 4 := HN 2 (by decide); show ((ntAll 6 b).getD 2 []).length = _; omega
 have HQ3 : (Go.Au.six b 3).length = 4 := by have h : (((ntAll 6 b).getD 3 []).length : Int) = 4 := HN 3 (by decide); show ((ntAll 6 b).getD 3 []).length = _; omega
 have HB0 := be_w HQ0
 have HB1 := be_w HQ1
 have HB2 := be_w HQ2
 have HB3 := be_w HQ3
 have HL4 : (Go.Au.six b 4).length = 32 := by show ((ntAll 6 b).getD 4 []).length = _; omega
 have HL5 : (Go.Au.six b 5).length = 32 := by show ((ntAll 6 b).getD 5 []).length = _; omega
 refine Aj 0 r59 fun b70 o71 hc72 => ?_
 have hc73 := hc72 0 (.int .i64 ((numA (ntAll 6 b) ([(1 : Int), (1 : Int), (4 : Int), (4 : Int)])).getD 0 0)) (at_i (numA (ntAll 6 b) ([(1 : Int), (1 : Int), (4 : Int), (4 : Int)])) 0 (by omega))
 simp only [Nat.add_zero] at hc73
 refine Am hc73 ?_
 refine T_re (v' := .int .i64 ((Go.Au.be (Go.Au.six b 0) : Nat) : Int)) (congrArg (Value.int .i64) (by rw [numA_yes HN]; exact numL_get (by decide))) ?_
 refine Pv ?_
 refine Aj 1 r59 fun b74 o75 hc76 => ?_
 have hc77 := hc76 0 (.int .i64 ((numA (ntAll 6 b) ([(1 : Int), (1 : Int), (4 : Int), (4 : Int)])).getD 1 0)) (at_i (numA (ntAll 6 b) ([(1 : Int), (1 : Int), (4 : Int), (4 : Int)])) 1 (by omega))
 simp only [Nat.add_zero] at hc77
 refine Am hc77 ?_
 refine T_re (v' := .int .i64 ((Go.Au.be (Go.Au.six b 1) : Nat) : Int)) (congrArg (Value.int .i64) (by rw [numA_yes HN]; exact numL_get (by decide))) ?_
 refine Pv ?_
 refine Aj 2 r59 fun b78 o79 hc80 => ?_
 have hc81 := hc80 0 (.int .i64 ((numA (ntAll 6 b) ([(1 : Int), (1 : Int), (4 : Int), (4 : Int)])).getD 2 0)) (at_i (numA (ntAll 6 b) ([(1 : Int), (1 : Int), (4 : Int), (4 : Int)])) 2 (by omega))
 simp only [Nat.add_zero] at hc81
 refine Am hc81 ?_
 refine T_re (v' := .int .i64 ((Go.Au.be (Go.Au.six b 2) : Nat) : Int)) (congrArg (Value.int .i64) (by rw [numA_yes HN]; exact numL_get (by decide))) ?_
 refine Pv ?_
 refine Aj 3 r59 fun b82 o83 hc84 => ?_
 have hc85 := hc84 0 (.int .i64 ((numA (ntAll 6 b) ([(1 : Int), (1 : Int), (4 : Int), (4 : Int)])).getD 3 0)) (at_i (numA (ntAll 6 b) ([(1 : Int), (1 : Int), (4 : Int), (4 : Int)])) 3 (by omega))
 simp only [Nat.add_zero] at hc85
 refine Am hc85 ?_
 refine T_re (v' := .int .i64 ((Go.Au.be (Go.Au.six b 3) : Nat) : Int)) (congrArg (Value.int .i64) (by rw [numA_yes HN]; exact numL_get (by decide))) ?_
 refine Pv ?_
 obtain ⟨hs89, r90, r91⟩ := (r6.mono (hl55.trans hl64))
 refine Aj 4 r90 fun b86 o87 hc88 => ?_
 obtain ⟨a94, c95, hc97, hv93, r96⟩ := r91.at 4 (by omega)
 have hc98 := hc88 0 (.slice a94 ((ntAll 6 b).getD 4 []).length c95) (by simpa using hv93)
 simp only [Nat.add_zero] at hc98
 refine Am hc98 ?_
 have hb102 := (r96).lenB
 have hl103 := take_len32 (l := ((ntAll 6 b).getD 4 [])) (by omega)
 refine T_s2apR r96 rfl rfl rfl rfl rfl rfl (by decide) (by omega) fun b99 o100 hc101 => ?_
 refine T_loadGAP _ (fun _ h => h) hc101 rfl rfl rfl rfl rfl rfl rfl rfl (hVs hl103) (T_re (v' := hV (Go.Au.six b 4)) (congrArg hV (List.take_of_length_le (by omega))) ?_)
 refine Pv ?_
 obtain ⟨hs107, r108, r109⟩ := (r6.mono (hl55.trans hl64))
 refine Aj 5 r108 fun b104 o105 hc106 => ?_
 obtain ⟨a112, c113, hc115, hv111, r114⟩ := r109.at 5 (by omega)
 have hc116 := hc106 0 (.slice a112 ((ntAll 6 b).getD 5 []).length c113) (by simpa using hv111)
 simp only [Nat.add_zero] at hc116
 refine Am hc116 ?_
 have hb120 := (r114).lenB
 have hl121 := take_len32 (l := ((ntAll 6 b).getD 5 [])) (by omega)
 refine T_s2apR r114 rfl rfl rfl rfl rfl rfl (by decide) (by omega) fun b117 o118 hc119 => ?_
 refine T_loadGAP _ (fun _ h => h) hc119 rfl rfl rfl rfl rfl rfl rfl rfl (hVs hl121) (T_re (v' := hV (Go.Au.six b 5)) (congrArg hV (List.take_of_length_le (by omega))) ?_)
 refine Ag (cells := (qV ((Go.Au.be (Go.Au.six b 0) : Nat) : Int) ((Go.Au.be (Go.Au.six b 1) : Nat) : Int) ((Go.Au.be (Go.Au.six b 2) : Nat) : Int) ((Go.Au.be (Go.Au.six b 3) : Nat) : Int) (Go.Au.six b 4) (Go.Au.six b 5) : Value).cells) (hf := fill_q32 HL4 HL5) ?_
 refine Af (hC := fun _ h => ((Hp.le.refl _)).trans h) S69 fun b122 w123 S124 => ?_
 refine Ak (hC := fun _ h => ((Hp.le.refl _)).trans h) (hl := by exact qV_sz (q_len HL4 HL5 rfl)) (hl2 := by exact qV_sz (q_len HL4 HL5 rfl)) (h1 := by exact qV_one) 0 S124 fun w125 S126 => (T_nil (W_seq (Wr ?_)))
 refine An (hl := by exact qV_sz (q_len HL4 HL5 rfl)) 0 S126 ?_
 refine Cs g_aumbry_layout_May ((may_ok S126.le ((Go.Au.be (Go.Au.six b 0) : Nat) : Int) ((Go.Au.be (Go.Au.six b 1) : Nat) : Int) ((Go.Au.be (Go.Au.six b 2) : Nat) : Int) ((Go.Au.be (Go.Au.six b 3) : Nat) : Int) HL4 HL5).mono ?_)
 rintro e w128 ⟨rfl, hB127⟩
 have S129 := S126.call hB127
 refine ⟨_, rfl, trivial, ?_⟩
 refine P2 ?_
 refine Tn 65 (fun h130 => ?_) (fun h130 => ?_)
 ·iterate 5 refine No ?_
  refine Pv (T_nil ?_)
  refine W_cond_true rfl (Wr (Ag (cells := (qz32 : Value).cells) ?_))
  refine Ak (hl := by exact qs32) (hl2 := by exact qs32) (h1 := by exact qV_one) 1 S129 fun w131 S132 => ?_
  refine Pv (T_nil (W_ret ?_))
  refine ⟨_, ⟨_, _, _, rfl, rfl, run_loadVarA rfl rfl (qs32) (S132.cells 1 rfl), ⟨_, _, rfl, rfl, rfl⟩⟩, ?_⟩
  have HNO : ¬ UebOk b := by
   intro hq
   obtain ⟨q0, q1, q2, q3, q4, q5, q6, q7, q8, q9, q10, q11, q12⟩ := hq
   obtain ⟨e0, e1, e2, e3, e4, e5⟩ := six_len q1 q2 q3 q4 q5 q6
   first | exact h130 q0 | omega | exact h130 (numU q1 q2 q3 q4) | exact h130 (packU_six q0 q1 q2 q3 q4)
  exact ⟨u_no HNO, S132.below⟩
 refine Ys ?_
 refine An (hl := by exact qV_sz (q_len HL4 HL5 rfl)) 0 S129 ?_
 refine Ys ?_
 refine Cs g_aumbry_layout_Pack ((packU_ok S129.le (hT.mono (hl11.trans (hl55.trans hl64))) ((Go.Au.be (Go.Au.six b 0) : Nat) : Int) ((Go.Au.be (Go.Au.six b 1) : Nat) : Int) ((Go.Au.be (Go.Au.six b 2) : Nat) : Int) ((Go.Au.be (Go.Au.six b 3) : Nat) : Int) (s := (Go.Au.six b 4)) (t := (Go.Au.six b 5)) HL4 HL5 (by omega) (by omega) (by omega) (by omega)).mono ?_)
 rintro e w138 ⟨a133, c134, hc135, rfl, ho136, hB137⟩
 have hl139 := packU_len ((Go.Au.be (Go.Au.six b 0) : Nat) : Int) ((Go.Au.be (Go.Au.six b 1) : Nat) : Int) ((Go.Au.be (Go.Au.six b 2) : Nat) : Int) ((Go.Au.be (Go.Au.six b 3) : Nat) : Int) (s := (Go.Au.six b 4)) (t := (Go.Au.six b 5)) (by have : (Go.Au.six b 4).length = _ := HL4; omega) (by have : (Go.Au.six b 5).length = _ := HL5; omega)
 have S140 := S129.own hB137 ho136
 refine ⟨_, rfl, trivial, ?_⟩
 refine Ys ?_
 refine Pv ?_
 refine Ys ?_
 obtain ⟨G142, hl143, S141, r144⟩ := S140.stillRow 0 rfl
 refine Cs g_bytes_Equal ((bytesEqual_ok S141.le r144 (hv.mono (hl11.trans (hl55.trans (hl64.trans hl143))))).mono ?_)
 rintro e w146 ⟨rfl, hB145⟩
 have S147 := S141.call hB145
 refine ⟨_, rfl, trivial, ?_⟩
 refine Ys ?_
 refine P2 (T_nil ?_)
 refine W_cond_not rfl (fun h148 => ?_) (fun h148 => ?_)
 ·refine Wr (Ag (cells := (qz32 : Value).cells) ?_)
  refine Ak (hl := by exact qs32) (hl2 := by exact qs32) (h1 := by exact qV_one) 1 S147 fun w149 S150 => ?_
  refine Pv (T_nil (W_ret ?_))
  refine ⟨_, ⟨_, _, _, rfl, rfl, run_loadVarA rfl rfl (qs32) (S150.cells 1 rfl), ⟨_, _, rfl, rfl, rfl⟩⟩, ?_⟩
  have HNO : ¬ UebOk b := by
   intro hq
   obtain ⟨q0, q1, q2, q3, q4, q5, q6, q7, q8, q9, q10, q11, q12⟩ := hq
   obtain ⟨e0, e1, e2, e3, e4, e5⟩ := six_len q1 q2 q3 q4 q5 q6
   first | exact h148 q0 | omega | exact h148 (numU q1 q2 q3 q4) | exact h148 (packU_six q0 q1 q2 q3 q4)
  exact ⟨u_no HNO, S150.below⟩
 refine W_skip (Wr (An (hl := by exact qV_sz (q_len HL4 HL5 rfl)) 0 S147 ?_))
 refine Ak (hl := by exact qV_sz (q_len HL4 HL5 rfl)) (hl2 := by exact qV_sz (q_len HL4 HL5 rfl)) (h1 := by exact qV_one) 1 S147 fun w151 S152 => ?_
 refine Pv (T_nil (W_ret ?_))
 refine ⟨_, ⟨_, _, _, rfl, rfl, run_loadVarA rfl rfl (qV_sz (q_len HL4 HL5 rfl)) (S152.cells 1 rfl), ⟨_, _, rfl, rfl, rfl⟩⟩, ?_⟩
 exact ⟨u_yes ⟨HA, HQ0, HQ1, HQ2, HQ3, HL4, HL5, by omega, by omega, by omega, by omega, by omega, by omega⟩, S152.below⟩




theorem unpackUR_ok {H : Hp} {w : World} (hH : H.le (hw w)) {b : List UInt8} {aa0 : Option Addr} {nn0 cc0 : Nat} (hv : Rd H (.slice aa0 nn0 cc0) nn0 1 (b.map bV)) (hb : b.length ≤ 10000) :
  Calls Tryz.prog 32 #[.slice aa0 nn0 cc0] w fun e w' => e = .returned (.tuple #[qV (uN b 0) (uN b 1) (uN b 2) (uN b 3) (uH b 4) (uH b 5), .bool (decide (UebOk b))]) ∧ Below w.heap.size w w' := by
 obtain rfl : nn0 = b.length := hv.lenB
 have hvcap : b.length ≤ cc0 := hv.capOf
 refine Aa Tryz.func32 Tryz.ntmps32 Tryz.results32 ?_
 have S0 := St.start w hH
 refine Wr (Af S0 fun b1 w2 S3 => ?_)
 refine Pv (Nr ?_)
 refine Pv ?_
 refine Cs g_aumbry_aumbryref01_TakeNets ((takeNetsR_ok S3.le hv 6 (by omega) (by omega)).mono ?_)
 rintro e w8 ⟨a4, c5, rfl, r6, hB7⟩
 obtain ⟨G10, eG12⟩ : ∃ G, G = F.ext H w2.heap.size w8 := ⟨_, rfl⟩
 obtain ⟨hl11, S9⟩ := S3.ext hB7
 rw [← eG12] at hl11 S9 r6
 refine ⟨_, rfl, trivial, ?_⟩
 iterate 5 refine Pv ?_
 refine T_nil (W_seq (Wr (P3 ?_)))
 refine Tn 14 (fun h13 => ?_) (fun h13 => ?_)
 ·iterate 5 refine No ?_
  refine P2 ?_
  iterate 5 refine No ?_
  refine P2 ?_
  iterate 5 refine No ?_
  refine P2 ?_
  iterate 5 refine No ?_
  refine P2 ?_
  iterate 5 refine No ?_
  refine P2 ?_
  iterate 5 refine No ?_
  refine Pv (T_nil ?_)
  refine W_cond_true rfl (Wr (Ag (cells := (qz32 : Value).cells) ?_))
  refine Ak (hl := by exact qs32) (hl2 := by exact qs32) (h1 := by exact qV_one) 0 S9 fun w14 S15 => ?_
  refine Pv (T_nil (W_ret ?_))
  refine ⟨_, ⟨_, _, _, rfl, rfl, run_loadVarA rfl rfl (qs32) (S15.cells 0 rfl), ⟨_, _, rfl, rfl, rfl⟩⟩, ?_⟩
  have HNO : ¬ UebOk b := by
   intro hq
   obtain ⟨q0, q1, q2, q3, q4, q5, q6, q7, q8, q9, q10, q11, q12⟩ := hq
   obtain ⟨e0, e1, e2, e3, e4, e5⟩ := six_len q1 q2 q3 q4 q5 q6
   first | exact h13 q0 | omega | exact h13 (numU q1 q2 q3 q4) | exact h13 (packU_six q0 q1 q2 q3 q4)
  exact ⟨u_no HNO, S15.below⟩
 refine Ys ?_
 have HA := h13
 have hn6 := ntAll_len HA
 refine Pv ?_
 refine Ys ?_
 obtain ⟨hs19, r20, r21⟩ := (id r6)
 refine Aj 0 r20 fun b16 o17 hc18 => ?_
 obtain ⟨a24, c25, hc27, hv23, r26⟩ := r21.at 0 (by omega)
 have hc28 := hc18 0 (.slice a24 ((ntAll 6 b).getD 0 []).length c25) (by simpa using hv23)
 simp only [Nat.add_zero] at hc28
 refine Ys ?_
 refine Ad S9 hc28 ?_
 iterate 2 (refine Ys ?_; refine Pv ?_)
 refine P2 ?_
 refine Tn 21 (fun h29 => ?_) (fun h29 => ?_)
 ·iterate 5 refine No ?_
  refine P2 ?_
  iterate 5 refine No ?_
  refine P2 ?_
  iterate 5 refine No ?_
  refine P2 ?_
  iterate 5 refine No ?_
  refine P2 ?_
  iterate 5 refine No ?_
  refine Pv (T_nil ?_)
  refine W_cond_true rfl (Wr (Ag (cells := (qz32 : Value).cells) ?_))
  refine Ak (hl := by exact qs32) (hl2 := by exact qs32) (h1 := by exact qV_one) 0 S9 fun w30 S31 => ?_
  refine Pv (T_nil (W_ret ?_))
  refine ⟨_, ⟨_, _, _, rfl, rfl, run_loadVarA rfl rfl (qs32) (S31.cells 0 rfl), ⟨_, _, rfl, rfl, rfl⟩⟩, ?_⟩
  have HNO : ¬ UebOk b := by
   intro hq
   obtain ⟨q0, q1, q2, q3, q4, q5, q6, q7, q8, q9, q10, q11, q12⟩ := hq
   obtain ⟨e0, e1, e2, e3, e4, e5⟩ := six_len q1 q2 q3 q4 q5 q6
   first | exact h29 q0 | omega | exact h29 (numU q1 q2 q3 q4) | exact h29 (packU_six q0 q1 q2 q3 q4)
  exact ⟨u_no HNO, S31.below⟩
 refine Ys ?_
 refine Pv ?_
 refine Ys ?_
 obtain ⟨hs35, r36, r37⟩ := (id r6)
 refine Aj 1 r36 fun b32 o33 hc34 => ?_
 obtain ⟨a40, c41, hc43, hv39, r42⟩ := r37.at 1 (by omega)
 have hc44 := hc34 0 (.slice a40 ((ntAll 6 b).getD 1 []).length c41) (by simpa using hv39)
 simp only [Nat.add_zero] at hc44
 refine Ys ?_
 refine Ad S9 hc44 ?_
 iterate 2 (refine Ys ?_; refine Pv ?_)
 refine P2 ?_
 refine Tn 28 (fun h45 => ?_) (fun h45 => ?_)
 ·iterate 5 refine No ?_
  refine P2 ?_
  iterate 5 refine No ?_
  refine P2 ?_
  iterate 5 refine No ?_
  refine P2 ?_
  iterate 5 refine No ?_
  refine Pv (T_nil ?_)
  refine W_cond_true rfl (Wr (Ag (cells := (qz32 : Value).cells) ?_))
  refine Ak (hl := by exact qs32) (hl2 := by exact qs32) (h1 := by exact qV_one) 0 S9 fun w46 S47 => ?_
  refine Pv (T_nil (W_ret ?_))
  refine ⟨_, ⟨_, _, _, rfl, rfl, run_loadVarA rfl rfl (qs32) (S47.cells 0 rfl), ⟨_, _, rfl, rfl, rfl⟩⟩, ?_⟩
  have HNO : ¬ UebOk b := by
   intro hq
   obtain ⟨q0, q1, q2, q3, q4, q5, q6, q7, q8, q9, q10, q11, q12⟩ := hq
   obtain ⟨e0, e1, e2, e3, e4, e5⟩ := six_len q1 q2 q3 q4 q5 q6
   first | exact h45 q0 | omega | exact h45 (numU q1 q2 q3 q4) | exact h45 (packU_six q0 q1 q2 q3 q4)
  exact ⟨u_no HNO, S47.below⟩
 refine Ys ?_
 refine Pv ?_
 refine Ys ?_
 obtain ⟨hs51, r52, r53⟩ := (id r6)
 refine Aj 2 r52 fun b48 o49 hc50 => ?_
 obtain ⟨a56, c57, hc59, hv55, r58⟩ := r53.at 2 (by omega)
 have hc60 := hc50 0 (.slice a56 ((ntAll 6 b).getD 2 []).length c57) (by simpa using hv55)
 simp only [Nat.add_zero] at hc60
 refine Ys ?_
 refine Ad S9 hc60 ?_
 iterate 2 (refine Ys ?_; refine Pv ?_)
 refine P2 ?_
 refine Tn 35 (fun h61 => ?_) (fun h61 => ?_)
 ·iterate 5 refine No ?_
  refine P2 ?_
  iterate 5 refine No ?_
  refine P2 ?_
  iterate 5 refine No ?_
  refine Pv (T_nil ?_)
  refine W_cond_true rfl (Wr (Ag (cells := (qz32 : Value).cells) ?_))
  refine Ak (hl := by exact qs32) (hl2 := by exact qs32) (h1 := by exact qV_one) 0 S9 fun w62 S63 => ?_
  refine Pv (T_nil (W_ret ?_))
  refine ⟨_, ⟨_, _, _, rfl, rfl, run_loadVarA rfl rfl (qs32) (S63.cells 0 rfl), ⟨_, _, rfl, rfl, rfl⟩⟩, ?_⟩
  have HNO : ¬ UebOk b := by
   intro hq
   obtain ⟨q0, q1, q2, q3, q4, q5, q6, q7, q8, q9, q10, q11, q12⟩ := hq
   obtain ⟨e0, e1, e2, e3, e4, e5⟩ := six_len q1 q2 q3 q4 q5 q6
   first | exact h61 q0 | omega | exact h61 (numU q1 q2 q3 q4) | exact h61 (packU_six q0 q1 q2 q3 q4)
  exact ⟨u_no HNO, S63.below⟩
 refine Ys ?_
 refine Pv ?_
 refine Ys ?_
 obtain ⟨hs67, r68, r69⟩ := (id r6)
 refine Aj 3 r68 fun b64 o65 hc66 => ?_
 obtain ⟨a72, c73, hc75, hv71, r74⟩ := r69.at 3 (by omega)
 have hc76 := hc66 0 (.slice a72 ((ntAll 6 b).getD 3 []).length c73) (by simpa using hv71)
 simp only [Nat.add_zero] at hc76
 refine Ys ?_
 refine Ad S9 hc76 ?_
 iterate 2 (refine Ys ?_; refine Pv ?_)
 refine P2 ?_
 refine Tn 42 (fun h77 => ?_) (fun h77 => ?_)
 ·iterate 5 refine No ?_
  refine P2 ?_
  iterate 5 refine No ?_
  refine Pv (T_nil ?_)
  refine W_cond_true rfl (Wr (Ag (cells := (qz32 : Value).cells) ?_))
  refine Ak (hl := by exact qs32) (hl2 := by exact qs32) (h1 := by exact qV_one) 0 S9 fun w78 S79 => ?_
  refine Pv (T_nil (W_ret ?_))
  refine ⟨_, ⟨_, _, _, rfl, rfl, run_loadVarA rfl rfl (qs32) (S79.cells 0 rfl), ⟨_, _, rfl, rfl, rfl⟩⟩, ?_⟩
  have HNO : ¬ UebOk b := by
   intro hq
   obtain ⟨q0, q1, q2, q3, q4, q5, q6, q7, q8, q9, q10, q11, q12⟩ := hq
   obtain ⟨e0, e1, e2, e3, e4, e5⟩ := six_len q1 q2 q3 q4 q5 q6
   first | exact h77 q0 | omega | exact h77 (numU q1 q2 q3 q4) | exact h77 (packU_six q0 q1 q2 q3 q4)
  exact ⟨u_no HNO, S79.below⟩
 refine Ys ?_
 refine Pv ?_
 refine Ys ?_
 obtain ⟨hs83, r84, r85⟩ := (id r6)
 refine Aj 4 r84 fun b80 o81 hc82 => ?_
 obtain ⟨a88, c89, hc91, hv87, r90⟩ := r85.at 4 (by omega)
 have hc92 := hc82 0 (.slice a88 ((ntAll 6 b).getD 4 []).length c89) (by simpa using hv87)
 simp only [Nat.add_zero] at hc92
 refine Ys ?_
 refine Ad S9 hc92 ?_
 iterate 2 (refine Ys ?_; refine Pv ?_)
 refine P2 ?_
 refine Tn 49 (fun h93 => ?_) (fun h93 => ?_)
 ·iterate 5 refine No ?_
  refine Pv (T_nil ?_)
  refine W_cond_true rfl (Wr (Ag (cells := (qz32 : Value).cells) ?_))
  refine Ak (hl := by exact qs32) (hl2 := by exact qs32) (h1 := by exact qV_one) 0 S9 fun w94 S95 => ?_
  refine Pv (T_nil (W_ret ?_))
  refine ⟨_, ⟨_, _, _, rfl, rfl, run_loadVarA rfl rfl (qs32) (S95.cells 0 rfl), ⟨_, _, rfl, rfl, rfl⟩⟩, ?_⟩
  have HNO : ¬ UebOk b := by
   intro hq
   obtain ⟨q0, q1, q2, q3, q4, q5, q6, q7, q8, q9, q10, q11, q12⟩ := hq
   obtain ⟨e0, e1, e2, e3, e4, e5⟩ := six_len q1 q2 q3 q4 q5 q6
   first | exact h93 q0 | omega | exact h93 (numU q1 q2 q3 q4) | exact h93 (packU_six q0 q1 q2 q3 q4)
  exact ⟨u_no HNO, S95.below⟩
 refine Ys ?_
 refine Pv ?_
 refine Ys ?_
 obtain ⟨hs99, r100, r101⟩ := (id r6)
 refine Aj 5 r100 fun b96 o97 hc98 => ?_
 obtain ⟨a104, c105, hc107, hv103, r106⟩ := r101.at 5 (by omega)
 have hc108 := hc98 0 (.slice a104 ((ntAll 6 b).getD 5 []).length c105) (by simpa using hv103)
 simp only [Nat.add_zero] at hc108
 refine Ys ?_
 refine Ad S9 hc108 ?_
 iterate 2 (refine Ys ?_; refine Pv ?_)
 refine Pv (T_nil ?_)
 refine W_cond_not rfl (fun h109 => ?_) (fun h109 => ?_)
 ·refine Wr (Ag (cells := (qz32 : Value).cells) ?_)
  refine Ak (hl := by exact qs32) (hl2 := by exact qs32) (h1 := by exact qV_one) 0 S9 fun w110 S111 => ?_
  refine Pv (T_nil (W_ret ?_))
  refine ⟨_, ⟨_, _, _, rfl, rfl, run_loadVarA rfl rfl (qs32) (S111.cells 0 rfl), ⟨_, _, rfl, rfl, rfl⟩⟩, ?_⟩
  have HNO : ¬ UebOk b := by
   intro hq
   obtain ⟨q0, q1, q2, q3, q4, q5, q6, q7, q8, q9, q10, q11, q12⟩ := hq
   obtain ⟨e0, e1, e2, e3, e4, e5⟩ := six_len q1 q2 q3 q4 q5 q6
   first | exact h109 q0 | omega | exact h109 (numU q1 q2 q3 q4) | exact h109 (packU_six q0 q1 q2 q3 q4)
  exact ⟨u_no HNO, S111.below⟩
 refine W_skip (W_seq (W_tree (planF Tryz.prog G10 [59, 61, 65, 67, 71, 75]) (.step 0 (.step 1 (.step 2 (.step 3 (.step 4 (.step 5 (.step 6 (.step 7 (.step 8 (.step 9 (.step 10 (.step 11 (.step 12 (.step 13 (.step 14 (.step 16 (.step 17 (.step 18 (.fork 15 21 (.fork 19 21 (.step 20 (.step 21 (.step 22 .done))) (.step 19 (.step 20 (.step 22 .done)))) (.step 15 (.step 19 (.step 20 (.step 22 .done))))))))))))))))))))))) rfl (by kernel_rfl) S9.le ?_))
 have S112 := S9.drew
 refine TT_step rfl ?_
 have HQ0 : (Go.Au.six b 0).length = 1 := by show ((ntAll 6 b).getD 0 []).length = _; omega
 have HQ1 : (Go.Au.six b 1).length = 1 := by show ((ntAll 6 b).getD 1 []).length = _; omega
 have HQ2 : (Go.Au.six b 2).length = 4 := by show ((ntAll 6 b).getD 2 []).length = _; omega
 have HQ3 : (Go.Au.six b 3).length = 4 := by show ((ntAll 6 b).getD 3 []).length = _; omega
 have HB0 := be_w HQ0
 have HB1 := be_w HQ1
 have HB2 := be_w HQ2
 have HB3 := be_w HQ3
 have HL4 : (Go.Au.six b 4).length = 32 := by show ((ntAll 6 b).getD 4 []).length = _; omega
 have HL5 : (Go.Au.six b 5).length = 32 := by show ((ntAll 6 b).getD 5 []).length = _; omega
 refine Pv ?_
 refine Nt rfl ?_
 obtain ⟨hs116, r117, r118⟩ := (id r6)
 refine Aj 0 r117 fun b113 o114 hc115 => ?_
 obtain ⟨a121, c122, hc124, hv120, r123⟩ := r118.at 0 (by omega)
 have hc125 := hc115 0 (.slice a121 ((ntAll 6 b).getD 0 []).length c122) (by simpa using hv120)
 simp only [Nat.add_zero] at hc125
 refine Nt rfl (Am hc125 ?_)
 refine Nt rfl (Aj 0 r123 fun b126 o127 hc128 => ?_)
 have hc129 := hc128 0 (bV (((ntAll 6 b).getD 0 []).getD 0 0)) (at_b ((ntAll 6 b).getD 0 []) 0 (by omega))
 simp only [Nat.add_zero] at hc129
 refine Nt rfl (Am hc129 ?_)
 refine Nt rfl (T_b2i rfl rfl rfl rfl rfl rfl rfl (T_re (v' := .int .i64 ((Go.Au.be (Go.Au.six b 0) : Nat) : Int)) (congrArg (fun q : Nat => Value.int .i64 (q : Int)) (be_one _ (by omega)).symm) ?_))
 refine Nt rfl (Pv ?_)
 refine Nt rfl ?_
 obtain ⟨hs133, r134, r135⟩ := (id r6)
 refine Aj 1 r134 fun b130 o131 hc132 => ?_
 obtain ⟨a138, c139, hc141, hv137, r140⟩ := r135.at 1 (by omega)
 have hc142 := hc132 0 (.slice a138 ((ntAll 6 b).getD 1 []).length c139) (by simpa using hv137)
 simp only [Nat.add_zero] at hc142
 refine Nt rfl (Am hc142 ?_)
 refine Nt rfl (Aj 0 r140 fun b143 o144 hc145 => ?_)
 have hc146 := hc145 0 (bV (((ntAll 6 b).getD 1 []).getD 0 0)) (at_b ((ntAll 6 b).getD 1 []) 0 (by omega))
 simp only [Nat.add_zero] at hc146
 refine Nt rfl (Am hc146 ?_)
 refine Nt rfl (T_b2i rfl rfl rfl rfl rfl rfl rfl (T_re (v' := .int .i64 ((Go.Au.be (Go.Au.six b 1) : Nat) : Int)) (congrArg (fun q : Nat => Value.int .i64 (q : Int)) (be_one _ (by omega)).symm) ?_))
 refine Nt rfl (Pv ?_)
 refine Nt rfl ?_
 obtain ⟨hs150, r151, r152⟩ := (id r6)
 refine Aj 4 r151 fun b147 o148 hc149 => ?_
 obtain ⟨a155, c156, hc158, hv154, r157⟩ := r152.at 4 (by omega)
 have hc159 := hc149 0 (.slice a155 ((ntAll 6 b).getD 4 []).length c156) (by simpa using hv154)
 simp only [Nat.add_zero] at hc159
 refine Nt rfl (Am hc159 ?_)
 refine Nt rfl (Pv ?_)
 refine Nt rfl ?_
 obtain ⟨hs163, r164, r165⟩ := (id r6)
 refine Aj 5 r164 fun b160 o161 hc162 => ?_
 obtain ⟨a168, c169, hc171, hv167, r170⟩ := r165.at 5 (by omega)
 have hc172 := hc162 0 (.slice a168 ((ntAll 6 b).getD 5 []).length c169) (by simpa using hv167)
 simp only [Nat.add_zero] at hc172
 refine Nt rfl (Am hc172 (T_nil ?_))
 refine TT_fork rfl rfl ?_ ?_
 ·refine Cs g_aumbry_aumbryref13_hash ((hash_ok S112.le r157 (by omega)).mono ?_)
  rintro e w174 ⟨rfl, hB173⟩
  have S175 := S112.call hB173
  refine ⟨_, rfl, (((Hp.le.refl _)).trans S175.le), ?_⟩
  refine T_re (v' := hV (Go.Au.six b 4)) rfl (T_nil (TT_fork rfl rfl ?_ ?_))
  ·refine Cs g_aumbry_aumbryref13_hash ((hash_ok S175.le r170 (by omega)).mono ?_)
   rintro e w177 ⟨rfl, hB176⟩
   have S178 := S175.call hB176
   refine ⟨_, rfl, (((Hp.le.refl _)).trans S178.le), ?_⟩
   refine T_re (v' := hV (Go.Au.six b 5)) rfl (Nt rfl (Ag (cells := (qV ((Go.Au.be (Go.Au.six b 0) : Nat) : Int) ((Go.Au.be (Go.Au.six b 1) : Nat) : Int) 0 0 (Go.Au.six b 4) (Go.Au.six b 5) : Value).cells) (hf := fill_q32r HL4 HL5) ?_))
   refine Nt rfl (Af (hC := fun _ h => ((Hp.le.refl _)).trans h) S178 fun b179 w180 S181 => ?_)
   refine Nt rfl (Ak (hC := fun _ h => ((Hp.le.refl _)).trans h) (hl := by exact qV_sz (q_len HL4 HL5 rfl)) (hl2 := by exact qV_sz (q_len HL4 HL5 rfl)) (h1 := by exact qV_one) 0 S181 fun w182 S183 => (T_nil (TT_done (Wr ?_))))
   refine Pv ?_
   obtain ⟨hs187, r188, r189⟩ := (id r6)
   refine Aj 2 r188 fun b184 o185 hc186 => ?_
   obtain ⟨a192, c193, hc195, hv191, r194⟩ := r189.at 2 (by omega)
   have hc196 := hc186 0 (.slice a192 ((ntAll 6 b).getD 2 []).length c193) (by simpa using hv191)
   simp only [Nat.add_zero] at hc196
   refine Ad S183 hc196 ?_
   refine Cs g_aumbry_aumbryref01_Get ((getR_ok S183.le r194 (by omega)).mono ?_)
   rintro e w198 ⟨rfl, hB197⟩
   have S199 := S183.call hB197
   refine ⟨_, rfl, trivial, ?_⟩
   refine P2 ?_
   refine T_re (v' := .int .i64 ((Go.Au.be (Go.Au.six b 2) : Nat) : Int)) (congrArg (fun q : Nat => Value.int .i64 (q : Int)) (getV_yes (by omega))) ?_
   refine Pv ?_
   refine Fl 2 ?_
   refine Ae (hfit := by exact Nat.lt_of_lt_of_eq (show 2 < 68 by decide) (show (qV ((Go.Au.be (Go.Au.six b 0) : Nat) : Int) ((Go.Au.be (Go.Au.six b 1) : Nat) : Int) 0 0 (Go.Au.six b 4) (Go.Au.six b 5) : Value).cells.size = 68 from qV_sz (q_len HL4 HL5 rfl)).symm) 0 2 S199 fun w200 S201 => ?_
   have S202 := S201.re 0 rfl (show (qV ((Go.Au.be (Go.Au.six b 0) : Nat) : Int) ((Go.Au.be (Go.Au.six b 1) : Nat) : Int) 0 0 (Go.Au.six b 4) (Go.Au.six b 5) : Value).cells.setIfInBounds 2 (.int .i64 ((Go.Au.be (Go.Au.six b 2) : Nat) : Int)) = (qV ((Go.Au.be (Go.Au.six b 0) : Nat) : Int) ((Go.Au.be (Go.Au.six b 1) : Nat) : Int) ((Go.Au.be (Go.Au.six b 2) : Nat) : Int) 0 (Go.Au.six b 4) (Go.Au.six b 5) : Value).cells from qV_set2 _)
   refine Nr (Pv ?_)
   obtain ⟨hs206, r207, r208⟩ := (id r6)
   refine Aj 3 r207 fun b203 o204 hc205 => ?_
   obtain ⟨a211, c212, hc214, hv210, r213⟩ := r208.at 3 (by omega)
   have hc215 := hc205 0 (.slice a211 ((ntAll 6 b).getD 3 []).length c212) (by simpa using hv210)
   simp only [Nat.add_zero] at hc215
   refine Ad S202 hc215 ?_
   refine Cs g_aumbry_aumbryref01_Get ((getR_ok S202.le r213 (by omega)).mono ?_)
   rintro e w217 ⟨rfl, hB216⟩
   have S218 := S202.call hB216
   refine ⟨_, rfl, trivial, ?_⟩
   refine P2 ?_
   refine T_re (v' := .int .i64 ((Go.Au.be (Go.Au.six b 3) : Nat) : Int)) (congrArg (fun q : Nat => Value.int .i64 (q : Int)) (getV_yes (by omega))) ?_
   refine Pv ?_
   refine Fl 3 ?_
   refine Ae (hfit := by exact Nat.lt_of_lt_of_eq (show 3 < 68 by decide) (show (qV ((Go.Au.be (Go.Au.six b 0) : Nat) : Int) ((Go.Au.be (Go.Au.six b 1) : Nat) : Int) ((Go.Au.be (Go.Au.six b 2) : Nat) : Int) 0 (Go.Au.six b 4) (Go.Au.six b 5) : Value).cells.size = 68 from qV_sz (q_len HL4 HL5 rfl)).symm) 0 3 S218 fun w219 S220 => ?_
   have S221 := S220.re 0 rfl (show (qV ((Go.Au.be (Go.Au.six b 0) : Nat) : Int) ((Go.Au.be (Go.Au.six b 1) : Nat) : Int) ((Go.Au.be (Go.Au.six b 2) : Nat) : Int) 0 (Go.Au.six b 4) (Go.Au.six b 5) : Value).cells.setIfInBounds 3 (.int .i64 ((Go.Au.be (Go.Au.six b 3) : Nat) : Int)) = (qV ((Go.Au.be (Go.Au.six b 0) : Nat) : Int) ((Go.Au.be (Go.Au.six b 1) : Nat) : Int) ((Go.Au.be (Go.Au.six b 2) : Nat) : Int) ((Go.Au.be (Go.Au.six b 3) : Nat) : Int) (Go.Au.six b 4) (Go.Au.six b 5) : Value).cells from qV_set3 _)
   refine T_nil (W_seq (Wr (Fl 0 ?_)))
   refine Ap 0 0 S221 qV_0 ?_
   refine P2 ?_
   refine Td 97 (fun h222 => ?_) (fun h222 => ?_)
   ·iterate 5 refine No ?_
    iterate 4 (refine Pv ?_; refine Pv ?_; refine No ?_; refine No ?_; refine No ?_)
    refine Pv (T_nil ?_)
    refine W_cond_true rfl (Wr (Ag (cells := (qz32 : Value).cells) ?_))
    refine Ak (hl := by exact qs32) (hl2 := by exact qs32) (h1 := by exact qV_one) 1 S221 fun w223 S224 => ?_
    refine Pv (T_nil (W_ret ?_))
    refine ⟨_, ⟨_, _, _, rfl, rfl, run_loadVarA rfl rfl (qs32) (S224.cells 1 rfl), ⟨_, _, rfl, rfl, rfl⟩⟩, ?_⟩
    have HNO : ¬ UebOk b := by
     intro hq
     obtain ⟨q0, q1, q2, q3, q4, q5, q6, q7, q8, q9, q10, q11, q12⟩ := hq
     obtain ⟨e0, e1, e2, e3, e4, e5⟩ := six_len q1 q2 q3 q4 q5 q6
     first | exact h222 q0 | omega | exact h222 (numU q1 q2 q3 q4) | exact h222 (packU_six q0 q1 q2 q3 q4)
    exact ⟨u_no HNO, S224.below⟩
   refine Ys ?_
   refine Fl 0 ?_
   refine Ys ?_
   refine Ap 0 0 S221 qV_0 ?_
   refine Ys ?_
   refine Fl 1 ?_
   refine Ys ?_
   refine Ap 0 1 S221 qV_1 ?_
   refine Ys ?_
   refine P3 ?_
   refine Td 104 (fun h225 => ?_) (fun h225 => ?_)
   ·iterate 3 (refine No ?_; refine No ?_; refine No ?_; refine Pv ?_; refine Pv ?_)
    iterate 3 refine No ?_
    refine Pv (T_nil ?_)
    refine W_cond_true rfl (Wr (Ag (cells := (qz32 : Value).cells) ?_))
    refine Ak (hl := by exact qs32) (hl2 := by exact qs32) (h1 := by exact qV_one) 1 S221 fun w226 S227 => ?_
    refine Pv (T_nil (W_ret ?_))
    refine ⟨_, ⟨_, _, _, rfl, rfl, run_loadVarA rfl rfl (qs32) (S227.cells 1 rfl), ⟨_, _, rfl, rfl, rfl⟩⟩, ?_⟩
    have HNO : ¬ UebOk b := by
     intro hq
     obtain ⟨q0, q1, q2, q3, q4, q5, q6, q7, q8, q9, q10, q11, q12⟩ := hq
     obtain ⟨e0, e1, e2, e3, e4, e5⟩ := six_len q1 q2 q3 q4 q5 q6
     first | exact h225 q0 | omega | exact h225 (numU q1 q2 q3 q4) | exact h225 (packU_six q0 q1 q2 q3 q4)
    exact ⟨u_no HNO, S227.below⟩
   refine Ys ?_
   refine Fl 1 ?_
   refine Ys ?_
   refine Ap 0 1 S221 qV_1 ?_
   refine Ys ?_
   refine P3 ?_
   refine Td 109 (fun h228 => ?_) (fun h228 => ?_)
   ·iterate 2 (refine No ?_; refine No ?_; refine No ?_; refine Pv ?_; refine Pv ?_)
    iterate 3 refine No ?_
    refine Pv (T_nil ?_)
    refine W_cond_true rfl (Wr (Ag (cells := (qz32 : Value).cells) ?_))
    refine Ak (hl := by exact qs32) (hl2 := by exact qs32) (h1 := by exact qV_one) 1 S221 fun w229 S230 => ?_
    refine Pv (T_nil (W_ret ?_))
    refine ⟨_, ⟨_, _, _, rfl, rfl, run_loadVarA rfl rfl (qs32) (S230.cells 1 rfl), ⟨_, _, rfl, rfl, rfl⟩⟩, ?_⟩
    have HNO : ¬ UebOk b := by
     intro hq
     obtain ⟨q0, q1, q2, q3, q4, q5, q6, q7, q8, q9, q10, q11, q12⟩ := hq
     obtain ⟨e0, e1, e2, e3, e4, e5⟩ := six_len q1 q2 q3 q4 q5 q6
     first | exact h228 q0 | omega | exact h228 (numU q1 q2 q3 q4) | exact h228 (packU_six q0 q1 q2 q3 q4)
    exact ⟨u_no HNO, S230.below⟩
   refine Ys ?_
   refine Fl 2 ?_
   refine Ys ?_
   refine Ap 0 2 S221 qV_2 ?_
   refine Ys ?_
   refine P3 ?_
   refine Td 114 (fun h231 => ?_) (fun h231 => ?_)
   ·iterate 3 refine No ?_
    refine P2 ?_
    iterate 3 refine No ?_
    refine Pv (T_nil ?_)
    refine W_cond_true rfl (Wr (Ag (cells := (qz32 : Value).cells) ?_))
    refine Ak (hl := by exact qs32) (hl2 := by exact qs32) (h1 := by exact qV_one) 1 S221 fun w232 S233 => ?_
    refine Pv (T_nil (W_ret ?_))
    refine ⟨_, ⟨_, _, _, rfl, rfl, run_loadVarA rfl rfl (qs32) (S233.cells 1 rfl), ⟨_, _, rfl, rfl, rfl⟩⟩, ?_⟩
    have HNO : ¬ UebOk b := by
     intro hq
     obtain ⟨q0, q1, q2, q3, q4, q5, q6, q7, q8, q9, q10, q11, q12⟩ := hq
     obtain ⟨e0, e1, e2, e3, e4, e5⟩ := six_len q1 q2 q3 q4 q5 q6
     first | exact h231 q0 | omega | exact h231 (numU q1 q2 q3 q4) | exact h231 (packU_six q0 q1 q2 q3 q4)
    exact ⟨u_no HNO, S233.below⟩
   refine Ys ?_
   refine Fl 2 ?_
   refine Ys ?_
   refine Ap 0 2 S221 qV_2 ?_
   refine Ys ?_
   refine P3 ?_
   refine Td 119 (fun h234 => ?_) (fun h234 => ?_)
   ·iterate 3 refine No ?_
    refine Pv (T_nil ?_)
    refine W_cond_true rfl (Wr (Ag (cells := (qz32 : Value).cells) ?_))
    refine Ak (hl := by exact qs32) (hl2 := by exact qs32) (h1 := by exact qV_one) 1 S221 fun w235 S236 => ?_
    refine Pv (T_nil (W_ret ?_))
    refine ⟨_, ⟨_, _, _, rfl, rfl, run_loadVarA rfl rfl (qs32) (S236.cells 1 rfl), ⟨_, _, rfl, rfl, rfl⟩⟩, ?_⟩
    have HNO : ¬ UebOk b := by
     intro hq
     obtain ⟨q0, q1, q2, q3, q4, q5, q6, q7, q8, q9, q10, q11, q12⟩ := hq
     obtain ⟨e0, e1, e2, e3, e4, e5⟩ := six_len q1 q2 q3 q4 q5 q6
     first | exact h234 q0 | omega | exact h234 (numU q1 q2 q3 q4) | exact h234 (packU_six q0 q1 q2 q3 q4)
    exact ⟨u_no HNO, S236.below⟩
   refine Ys ?_
   refine Fl 3 ?_
   refine Ys ?_
   refine Ap 0 3 S221 qV_3 ?_
   refine Ys ?_
   refine P2 (T_nil ?_)
   refine W_cond_not rfl (fun h237 => ?_) (fun h237 => ?_)
   ·refine Wr (Ag (cells := (qz32 : Value).cells) ?_)
    refine Ak (hl := by exact qs32) (hl2 := by exact qs32) (h1 := by exact qV_one) 1 S221 fun w238 S239 => ?_
    refine Pv (T_nil (W_ret ?_))
    refine ⟨_, ⟨_, _, _, rfl, rfl, run_loadVarA rfl rfl (qs32) (S239.cells 1 rfl), ⟨_, _, rfl, rfl, rfl⟩⟩, ?_⟩
    have HNO : ¬ UebOk b := by
     intro hq
     obtain ⟨q0, q1, q2, q3, q4, q5, q6, q7, q8, q9, q10, q11, q12⟩ := hq
     obtain ⟨e0, e1, e2, e3, e4, e5⟩ := six_len q1 q2 q3 q4 q5 q6
     first | exact h237 q0 | omega | exact h237 (numU q1 q2 q3 q4) | exact h237 (packU_six q0 q1 q2 q3 q4)
    exact ⟨u_no HNO, S239.below⟩
   refine W_skip (Wr (An (hl := by exact qV_sz (q_len HL4 HL5 rfl)) 0 S221 ?_))
   refine Ak (hl := by exact qV_sz (q_len HL4 HL5 rfl)) (hl2 := by exact qV_sz (q_len HL4 HL5 rfl)) (h1 := by exact qV_one) 1 S221 fun w240 S241 => ?_
   refine Pv (T_nil (W_ret ?_))
   refine ⟨_, ⟨_, _, _, rfl, rfl, run_loadVarA rfl rfl (qV_sz (q_len HL4 HL5 rfl)) (S241.cells 1 rfl), ⟨_, _, rfl, rfl, rfl⟩⟩, ?_⟩
   exact ⟨u_yes ⟨HA, HQ0, HQ1, HQ2, HQ3, HL4, HL5, by omega, by omega, by omega, by omega, by omega, by omega⟩, S241.below⟩
  refine Af (hC := fun _ h => ((Hp.le.refl _)).trans h) S175 fun b242 w243 S244 => ?_
  refine Nt rfl (Cs g_aumbry_aumbryref13_hash ((hash_ok S244.le r170 (by omega)).mono ?_))
  rintro e w246 ⟨rfl, hB245⟩
  have S247 := S244.call hB245
  refine ⟨_, rfl, (((Hp.le.refl _)).trans S247.le), ?_⟩
  refine T_re (v' := hV (Go.Au.six b 5)) rfl (Nt rfl (Ag (cells := (qV ((Go.Au.be (Go.Au.six b 0) : Nat) : Int) ((Go.Au.be (Go.Au.six b 1) : Nat) : Int) 0 0 (Go.Au.six b 4) (Go.Au.six b 5) : Value).cells) (hf := fill_q32r HL4 HL5) ?_))
  refine Nt rfl (Ak (hC := fun _ h => ((Hp.le.refl _)).trans h) (hl := by exact qV_sz (q_len HL4 HL5 rfl)) (hl2 := by exact qV_sz (q_len HL4 HL5 rfl)) (h1 := by exact qV_one) 0 S247 fun w248 S249 => (T_nil (TT_done (Wr ?_))))
  refine Pv ?_
  obtain ⟨hs253, r254, r255⟩ := (id r6)
  refine Aj 2 r254 fun b250 o251 hc252 => ?_
  obtain ⟨a258, c259, hc261, hv257, r260⟩ := r255.at 2 (by omega)
  have hc262 := hc252 0 (.slice a258 ((ntAll 6 b).getD 2 []).length c259) (by simpa using hv257)
  simp only [Nat.add_zero] at hc262
  refine Ad S249 hc262 ?_
  refine Cs g_aumbry_aumbryref01_Get ((getR_ok S249.le r260 (by omega)).mono ?_)
  rintro e w264 ⟨rfl, hB263⟩
  have S265 := S249.call hB263
  refine ⟨_, rfl, trivial, ?_⟩
  refine P2 ?_
  refine T_re (v' := .int .i64 ((Go.Au.be (Go.Au.six b 2) : Nat) : Int)) (congrArg (fun q : Nat => Value.int .i64 (q : Int)) (getV_yes (by omega))) ?_
  refine Pv ?_
  refine Fl 2 ?_
  refine Ae (hfit := by exact Nat.lt_of_lt_of_eq (show 2 < 68 by decide) (show (qV ((Go.Au.be (Go.Au.six b 0) : Nat) : Int) ((Go.Au.be (Go.Au.six b 1) : Nat) : Int) 0 0 (Go.Au.six b 4) (Go.Au.six b 5) : Value).cells.size = 68 from qV_sz (q_len HL4 HL5 rfl)).symm) 0 2 S265 fun w266 S267 => ?_
  have S268 := S267.re 0 rfl (show (qV ((Go.Au.be (Go.Au.six b 0) : Nat) : Int) ((Go.Au.be (Go.Au.six b 1) : Nat) : Int) 0 0 (Go.Au.six b 4) (Go.Au.six b 5) : Value).cells.setIfInBounds 2 (.int .i64 ((Go.Au.be (Go.Au.six b 2) : Nat) : Int)) = (qV ((Go.Au.be (Go.Au.six b 0) : Nat) : Int) ((Go.Au.be (Go.Au.six b 1) : Nat) : Int) ((Go.Au.be (Go.Au.six b 2) : Nat) : Int) 0 (Go.Au.six b 4) (Go.Au.six b 5) : Value).cells from qV_set2 _)
  refine Nr (Pv ?_)
  obtain ⟨hs272, r273, r274⟩ := (id r6)
  refine Aj 3 r273 fun b269 o270 hc271 => ?_
  obtain ⟨a277, c278, hc280, hv276, r279⟩ := r274.at 3 (by omega)
  have hc281 := hc271 0 (.slice a277 ((ntAll 6 b).getD 3 []).length c278) (by simpa using hv276)
  simp only [Nat.add_zero] at hc281
  refine Ad S268 hc281 ?_
  refine Cs g_aumbry_aumbryref01_Get ((getR_ok S268.le r279 (by omega)).mono ?_)
  rintro e w283 ⟨rfl, hB282⟩
  have S284 := S268.call hB282
  refine ⟨_, rfl, trivial, ?_⟩
  refine P2 ?_
  refine T_re (v' := .int .i64 ((Go.Au.be (Go.Au.six b 3) : Nat) : Int)) (congrArg (fun q : Nat => Value.int .i64 (q : Int)) (getV_yes (by omega))) ?_
  refine Pv ?_
  refine Fl 3 ?_
  refine Ae (hfit := by exact Nat.lt_of_lt_of_eq (show 3 < 68 by decide) (show (qV ((Go.Au.be (Go.Au.six b 0) : Nat) : Int) ((Go.Au.be (Go.Au.six b 1) : Nat) : Int) ((Go.Au.be (Go.Au.six b 2) : Nat) : Int) 0 (Go.Au.six b 4) (Go.Au.six b 5) : Value).cells.size = 68 from qV_sz (q_len HL4 HL5 rfl)).symm) 0 3 S284 fun w285 S286 => ?_
  have S287 := S286.re 0 rfl (show (qV ((Go.Au.be (Go.Au.six b 0) : Nat) : Int) ((Go.Au.be (Go.Au.six b 1) : Nat) : Int) ((Go.Au.be (Go.Au.six b 2) : Nat) : Int) 0 (Go.Au.six b 4) (Go.Au.six b 5) : Value).cells.setIfInBounds 3 (.int .i64 ((Go.Au.be (Go.Au.six b 3) : Nat) : Int)) = (qV ((Go.Au.be (Go.Au.six b 0) : Nat) : Int) ((Go.Au.be (Go.Au.six b 1) : Nat) : Int) ((Go.Au.be (Go.Au.six b 2) : Nat) : Int) ((Go.Au.be (Go.Au.six b 3) : Nat) : Int) (Go.Au.six b 4) (Go.Au.six b 5) : Value).cells from qV_set3 _)
  refine T_nil (W_seq (Wr (Fl 0 ?_)))
  refine Ap 0 0 S287 qV_0 ?_
  refine P2 ?_
  refine Td 97 (fun h288 => ?_) (fun h288 => ?_)
  ·iterate 5 refine No ?_
   iterate 4 (refine Pv ?_; refine Pv ?_; refine No ?_; refine No ?_; refine No ?_)
   refine Pv (T_nil ?_)
   refine W_cond_true rfl (Wr (Ag (cells := (qz32 : Value).cells) ?_))
   refine Ak (hl := by exact qs32) (hl2 := by exact qs32) (h1 := by exact qV_one) 1 S287 fun w289 S290 => ?_
   refine Pv (T_nil (W_ret ?_))
   refine ⟨_, ⟨_, _, _, rfl, rfl, run_loadVarA rfl rfl (qs32) (S290.cells 1 rfl), ⟨_, _, rfl, rfl, rfl⟩⟩, ?_⟩
   have HNO : ¬ UebOk b := by
    intro hq
    obtain ⟨q0, q1, q2, q3, q4, q5, q6, q7, q8, q9, q10, q11, q12⟩ := hq
    obtain ⟨e0, e1, e2, e3, e4, e5⟩ := six_len q1 q2 q3 q4 q5 q6
    first | exact h288 q0 | omega | exact h288 (numU q1 q2 q3 q4) | exact h288 (packU_six q0 q1 q2 q3 q4)
   exact ⟨u_no HNO, S290.below⟩
  refine Ys ?_
  refine Fl 0 ?_
  refine Ys ?_
  refine Ap 0 0 S287 qV_0 ?_
  refine Ys ?_
  refine Fl 1 ?_
  refine Ys ?_
  refine Ap 0 1 S287 qV_1 ?_
  refine Ys ?_
  refine P3 ?_
  refine Td 104 (fun h291 => ?_) (fun h291 => ?_)
  ·iterate 3 (refine No ?_; refine No ?_; refine No ?_; refine Pv ?_; refine Pv ?_)
   iterate 3 refine No ?_
   refine Pv (T_nil ?_)
   refine W_cond_true rfl (Wr (Ag (cells := (qz32 : Value).cells) ?_))
   refine Ak (hl := by exact qs32) (hl2 := by exact qs32) (h1 := by exact qV_one) 1 S287 fun w292 S293 => ?_
   refine Pv (T_nil (W_ret ?_))
   refine ⟨_, ⟨_, _, _, rfl, rfl, run_loadVarA rfl rfl (qs32) (S293.cells 1 rfl), ⟨_, _, rfl, rfl, rfl⟩⟩, ?_⟩
   have HNO : ¬ UebOk b := by
    intro hq
    obtain ⟨q0, q1, q2, q3, q4, q5, q6, q7, q8, q9, q10, q11, q12⟩ := hq
    obtain ⟨e0, e1, e2, e3, e4, e5⟩ := six_len q1 q2 q3 q4 q5 q6
    first | exact h291 q0 | omega | exact h291 (numU q1 q2 q3 q4) | exact h291 (packU_six q0 q1 q2 q3 q4)
   exact ⟨u_no HNO, S293.below⟩
  refine Ys ?_
  refine Fl 1 ?_
  refine Ys ?_
  refine Ap 0 1 S287 qV_1 ?_
  refine Ys ?_
  refine P3 ?_
  refine Td 109 (fun h294 => ?_) (fun h294 => ?_)
  ·iterate 2 (refine No ?_; refine No ?_; refine No ?_; refine Pv ?_; refine Pv ?_)
   iterate 3 refine No ?_
   refine Pv (T_nil ?_)
   refine W_cond_true rfl (Wr (Ag (cells := (qz32 : Value).cells) ?_))
   refine Ak (hl := by exact qs32) (hl2 := by exact qs32) (h1 := by exact qV_one) 1 S287 fun w295 S296 => ?_
   refine Pv (T_nil (W_ret ?_))
   refine ⟨_, ⟨_, _, _, rfl, rfl, run_loadVarA rfl rfl (qs32) (S296.cells 1 rfl), ⟨_, _, rfl, rfl, rfl⟩⟩, ?_⟩
   have HNO : ¬ UebOk b := by
    intro hq
    obtain ⟨q0, q1, q2, q3, q4, q5, q6, q7, q8, q9, q10, q11, q12⟩ := hq
    obtain ⟨e0, e1, e2, e3, e4, e5⟩ := six_len q1 q2 q3 q4 q5 q6
    first | exact h294 q0 | omega | exact h294 (numU q1 q2 q3 q4) | exact h294 (packU_six q0 q1 q2 q3 q4)
   exact ⟨u_no HNO, S296.below⟩
  refine Ys ?_
  refine Fl 2 ?_
  refine Ys ?_
  refine Ap 0 2 S287 qV_2 ?_
  refine Ys ?_
  refine P3 ?_
  refine Td 114 (fun h297 => ?_) (fun h297 => ?_)
  ·iterate 3 refine No ?_
   refine P2 ?_
   iterate 3 refine No ?_
   refine Pv (T_nil ?_)
   refine W_cond_true rfl (Wr (Ag (cells := (qz32 : Value).cells) ?_))
   refine Ak (hl := by exact qs32) (hl2 := by exact qs32) (h1 := by exact qV_one) 1 S287 fun w298 S299 => ?_
   refine Pv (T_nil (W_ret ?_))
   refine ⟨_, ⟨_, _, _, rfl, rfl, run_loadVarA rfl rfl (qs32) (S299.cells 1 rfl), ⟨_, _, rfl, rfl, rfl⟩⟩, ?_⟩
   have HNO : ¬ UebOk b := by
    intro hq
    obtain ⟨q0, q1, q2, q3, q4, q5, q6, q7, q8, q9, q10, q11, q12⟩ := hq
    obtain ⟨e0, e1, e2, e3, e4, e5⟩ := six_len q1 q2 q3 q4 q5 q6
    first | exact h297 q0 | omega | exact h297 (numU q1 q2 q3 q4) | exact h297 (packU_six q0 q1 q2 q3 q4)
   exact ⟨u_no HNO, S299.below⟩
  refine Ys ?_
  refine Fl 2 ?_
  refine Ys ?_
  refine Ap 0 2 S287 qV_2 ?_
  refine Ys ?_
  refine P3 ?_
  refine Td 119 (fun h300 => ?_) (fun h300 => ?_)
  ·iterate 3 refine No ?_
   refine Pv (T_nil ?_)
   refine W_cond_true rfl (Wr (Ag (cells := (qz32 : Value).cells) ?_))
   refine Ak (hl := by exact qs32) (hl2 := by exact qs32) (h1 := by exact qV_one) 1 S287 fun w301 S302 => ?_
   refine Pv (T_nil (W_ret ?_))
   refine ⟨_, ⟨_, _, _, rfl, rfl, run_loadVarA rfl rfl (qs32) (S302.cells 1 rfl), ⟨_, _, rfl, rfl, rfl⟩⟩, ?_⟩
   have HNO : ¬ UebOk b := by
    intro hq
    obtain ⟨q0, q1, q2, q3, q4, q5, q6, q7, q8, q9, q10, q11, q12⟩ := hq
    obtain ⟨e0, e1, e2, e3, e4, e5⟩ := six_len q1 q2 q3 q4 q5 q6
    first | exact h300 q0 | omega | exact h300 (numU q1 q2 q3 q4) | exact h300 (packU_six q0 q1 q2 q3 q4)
   exact ⟨u_no HNO, S302.below⟩
  refine Ys ?_
  refine Fl 3 ?_
  refine Ys ?_
  refine Ap 0 3 S287 qV_3 ?_
  refine Ys ?_
  refine P2 (T_nil ?_)
  refine W_cond_not rfl (fun h303 => ?_) (fun h303 => ?_)
  ·refine Wr (Ag (cells := (qz32 : Value).cells) ?_)
   refine Ak (hl := by exact qs32) (hl2 := by exact qs32) (h1 := by exact qV_one) 1 S287 fun w304 S305 => ?_
   refine Pv (T_nil (W_ret ?_))
   refine ⟨_, ⟨_, _, _, rfl, rfl, run_loadVarA rfl rfl (qs32) (S305.cells 1 rfl), ⟨_, _, rfl, rfl, rfl⟩⟩, ?_⟩
   have HNO : ¬ UebOk b := by
    intro hq
    obtain ⟨q0, q1, q2, q3, q4, q5, q6, q7, q8, q9, q10, q11, q12⟩ := hq
    obtain ⟨e0, e1, e2, e3, e4, e5⟩ := six_len q1 q2 q3 q4 q5 q6
    first | exact h303 q0 | omega | exact h303 (numU q1 q2 q3 q4) | exact h303 (packU_six q0 q1 q2 q3 q4)
   exact ⟨u_no HNO, S305.below⟩
  refine W_skip (Wr (An (hl := by exact qV_sz (q_len HL4 HL5 rfl)) 0 S287 ?_))
  refine Ak (hl := by exact qV_sz (q_len HL4 HL5 rfl)) (hl2 := by exact qV_sz (q_len HL4 HL5 rfl)) (h1 := by exact qV_one) 1 S287 fun w306 S307 => ?_
  refine Pv (T_nil (W_ret ?_))
  refine ⟨_, ⟨_, _, _, rfl, rfl, run_loadVarA rfl rfl (qV_sz (q_len HL4 HL5 rfl)) (S307.cells 1 rfl), ⟨_, _, rfl, rfl, rfl⟩⟩, ?_⟩
  exact ⟨u_yes ⟨HA, HQ0, HQ1, HQ2, HQ3, HL4, HL5, by omega, by omega, by omega, by omega, by omega, by omega⟩, S307.below⟩
 refine Af (hC := fun _ h => ((Hp.le.refl _)).trans h) S112 fun b308 w309 S310 => ?_
 refine Nt rfl (Cs g_aumbry_aumbryref13_hash ((hash_ok S310.le r157 (by omega)).mono ?_))
 rintro e w312 ⟨rfl, hB311⟩
 have S313 := S310.call hB311
 refine ⟨_, rfl, (((Hp.le.refl _)).trans S313.le), ?_⟩
 refine T_re (v' := hV (Go.Au.six b 4)) rfl (Nt rfl (Cs g_aumbry_aumbryref13_hash ((hash_ok S313.le r170 (by omega)).mono ?_)))
 rintro e w315 ⟨rfl, hB314⟩
 have S316 := S313.call hB314
 refine ⟨_, rfl, (((Hp.le.refl _)).trans S316.le), ?_⟩
 refine T_re (v' := hV (Go.Au.six b 5)) rfl (Nt rfl (Ag (cells := (qV ((Go.Au.be (Go.Au.six b 0) : Nat) : Int) ((Go.Au.be (Go.Au.six b 1) : Nat) : Int) 0 0 (Go.Au.six b 4) (Go.Au.six b 5) : Value).cells) (hf := fill_q32r HL4 HL5) ?_))
 refine Nt rfl (Ak (hC := fun _ h => ((Hp.le.refl _)).trans h) (hl := by exact qV_sz (q_len HL4 HL5 rfl)) (hl2 := by exact qV_sz (q_len HL4 HL5 rfl)) (h1 := by exact qV_one) 0 S316 fun w317 S318 => (T_nil (TT_done (Wr ?_))))
 refine Pv ?_
 obtain ⟨hs322, r323, r324⟩ := (id r6)
 refine Aj 2 r323 fun b319 o320 hc321 => ?_
 obtain ⟨a327, c328, hc330, hv326, r329⟩ := r324.at 2 (by omega)
 have hc331 := hc321 0 (.slice a327 ((ntAll 6 b).getD 2 []).length c328) (by simpa using hv326)
 simp only [Nat.add_zero] at hc331
 refine Ad S318 hc331 ?_
 refine Cs g_aumbry_aumbryref01_Get ((getR_ok S318.le r329 (by omega)).mono ?_)
 rintro e w333 ⟨rfl, hB332⟩
 have S334 := S318.call hB332
 refine ⟨_, rfl, trivial, ?_⟩
 refine P2 ?_
 refine T_re (v' := .int .i64 ((Go.Au.be (Go.Au.six b 2) : Nat) : Int)) (congrArg (fun q : Nat => Value.int .i64 (q : Int)) (getV_yes (by omega))) ?_
 refine Pv ?_
 refine Fl 2 ?_
 refine Ae (hfit := by exact Nat.lt_of_lt_of_eq (show 2 < 68 by decide) (show (qV ((Go.Au.be (Go.Au.six b 0) : Nat) : Int) ((Go.Au.be (Go.Au.six b 1) : Nat) : Int) 0 0 (Go.Au.six b 4) (Go.Au.six b 5) : Value).cells.size = 68 from qV_sz (q_len HL4 HL5 rfl)).symm) 0 2 S334 fun w335 S336 => ?_
 have S337 := S336.re 0 rfl (show (qV ((Go.Au.be (Go.Au.six b 0) : Nat) : Int) ((Go.Au.be (Go.Au.six b 1) : Nat) : Int) 0 0 (Go.Au.six b 4) (Go.Au.six b 5) : Value).cells.setIfInBounds 2 (.int .i64 ((Go.Au.be (Go.Au.six b 2) : Nat) : Int)) = (qV ((Go.Au.be (Go.Au.six b 0) : Nat) : Int) ((Go.Au.be (Go.Au.six b 1) : Nat) : Int) ((Go.Au.be (Go.Au.six b 2) : Nat) : Int) 0 (Go.Au.six b 4) (Go.Au.six b 5) : Value).cells from qV_set2 _)
 refine Nr (Pv ?_)
 obtain ⟨hs341, r342, r343⟩ := (id r6)
 refine Aj 3 r342 fun b338 o339 hc340 => ?_
 obtain ⟨a346, c347, hc349, hv345, r348⟩ := r343.at 3 (by omega)
 have hc350 := hc340 0 (.slice a346 ((ntAll 6 b).getD 3 []).length c347) (by simpa using hv345)
 simp only [Nat.add_zero] at hc350
 refine Ad S337 hc350 ?_
 refine Cs g_aumbry_aumbryref01_Get ((getR_ok S337.le r348 (by omega)).mono ?_)
 rintro e w352 ⟨rfl, hB351⟩
 have S353 := S337.call hB351
 refine ⟨_, rfl, trivial, ?_⟩
 refine P2 ?_
 refine T_re (v' := .int .i64 ((Go.Au.be (Go.Au.six b 3) : Nat) : Int)) (congrArg (fun q : Nat => Value.int .i64 (q : Int)) (getV_yes (by omega))) ?_
 refine Pv ?_
 refine Fl 3 ?_
 refine Ae (hfit := by exact Nat.lt_of_lt_of_eq (show 3 < 68 by decide) (show (qV ((Go.Au.be (Go.Au.six b 0) : Nat) : Int) ((Go.Au.be (Go.Au.six b 1) : Nat) : Int) ((Go.Au.be (Go.Au.six b 2) : Nat) : Int) 0 (Go.Au.six b 4) (Go.Au.six b 5) : Value).cells.size = 68 from qV_sz (q_len HL4 HL5 rfl)).symm) 0 3 S353 fun w354 S355 => ?_
 have S356 := S355.re 0 rfl (show (qV ((Go.Au.be (Go.Au.six b 0) : Nat) : Int) ((Go.Au.be (Go.Au.six b 1) : Nat) : Int) ((Go.Au.be (Go.Au.six b 2) : Nat) : Int) 0 (Go.Au.six b 4) (Go.Au.six b 5) : Value).cells.setIfInBounds 3 (.int .i64 ((Go.Au.be (Go.Au.six b 3) : Nat) : Int)) = (qV ((Go.Au.be (Go.Au.six b 0) : Nat) : Int) ((Go.Au.be (Go.Au.six b 1) : Nat) : Int) ((Go.Au.be (Go.Au.six b 2) : Nat) : Int) ((Go.Au.be (Go.Au.six b 3) : Nat) : Int) (Go.Au.six b 4) (Go.Au.six b 5) : Value).cells from qV_set3 _)
 refine T_nil (W_seq (Wr (Fl 0 ?_)))
 refine Ap 0 0 S356 qV_0 ?_
 refine P2 ?_
 refine Td 97 (fun h357 => ?_) (fun h357 => ?_)
 ·iterate 5 refine No ?_
  iterate 4 (refine Pv ?_; refine Pv ?_; refine No ?_; refine No ?_; refine No ?_)
  refine Pv (T_nil ?_)
  refine W_cond_true rfl (Wr (Ag (cells := (qz32 : Value).cells) ?_))
  refine Ak (hl := by exact qs32) (hl2 := by exact qs32) (h1 := by exact qV_one) 1 S356 fun w358 S359 => ?_
  refine Pv (T_nil (W_ret ?_))
  refine ⟨_, ⟨_, _, _, rfl, rfl, run_loadVarA rfl rfl (qs32) (S359.cells 1 rfl), ⟨_, _, rfl, rfl, rfl⟩⟩, ?_⟩
  have HNO : ¬ UebOk b := by
   intro hq
   obtain ⟨q0, q1, q2, q3, q4, q5, q6, q7, q8, q9, q10, q11, q12⟩ := hq
   obtain ⟨e0, e1, e2, e3, e4, e5⟩ := six_len q1 q2 q3 q4 q5 q6
   first | exact h357 q0 | omega | exact h357 (numU q1 q2 q3 q4) | exact h357 (packU_six q0 q1 q2 q3 q4)
  exact ⟨u_no HNO, S359.below⟩
 refine Ys ?_
 refine Fl 0 ?_
 refine Ys ?_
 refine Ap 0 0 S356 qV_0 ?_
 refine Ys ?_
 refine Fl 1 ?_
 refine Ys ?_
 refine Ap 0 1 S356 qV_1 ?_
 refine Ys ?_
 refine P3 ?_
 refine Td 104 (fun h360 => ?_) (fun h360 => ?_)
 ·iterate 3 (refine No ?_; refine No ?_; refine No ?_; refine Pv ?_; refine Pv ?_)
  iterate 3 refine No ?_
  refine Pv (T_nil ?_)
  refine W_cond_true rfl (Wr (Ag (cells := (qz32 : Value).cells) ?_))
  refine Ak (hl := by exact qs32) (hl2 := by exact qs32) (h1 := by exact qV_one) 1 S356 fun w361 S362 => ?_
  refine Pv (T_nil (W_ret ?_))
  refine ⟨_, ⟨_, _, _, rfl, rfl, run_loadVarA rfl rfl (qs32) (S362.cells 1 rfl), ⟨_, _, rfl, rfl, rfl⟩⟩, ?_⟩
  have HNO : ¬ UebOk b := by
   intro hq
   obtain ⟨q0, q1, q2, q3, q4, q5, q6, q7, q8, q9, q10, q11, q12⟩ := hq
   obtain ⟨e0, e1, e2, e3, e4, e5⟩ := six_len q1 q2 q3 q4 q5 q6
   first | exact h360 q0 | omega | exact h360 (numU q1 q2 q3 q4) | exact h360 (packU_six q0 q1 q2 q3 q4)
  exact ⟨u_no HNO, S362.below⟩
 refine Ys ?_
 refine Fl 1 ?_
 refine Ys ?_
 refine Ap 0 1 S356 qV_1 ?_
 refine Ys ?_
 refine P3 ?_
 refine Td 109 (fun h363 => ?_) (fun h363 => ?_)
 ·iterate 2 (refine No ?_; refine No ?_; refine No ?_; refine Pv ?_; refine Pv ?_)
  iterate 3 refine No ?_
  refine Pv (T_nil ?_)
  refine W_cond_true rfl (Wr (Ag (cells := (qz32 : Value).cells) ?_))
  refine Ak (hl := by exact qs32) (hl2 := by exact qs32) (h1 := by exact qV_one) 1 S356 fun w364 S365 => ?_
  refine Pv (T_nil (W_ret ?_))
  refine ⟨_, ⟨_, _, _, rfl, rfl, run_loadVarA rfl rfl (qs32) (S365.cells 1 rfl), ⟨_, _, rfl, rfl, rfl⟩⟩, ?_⟩
  have HNO : ¬ UebOk b := by
   intro hq
   obtain ⟨q0, q1, q2, q3, q4, q5, q6, q7, q8, q9, q10, q11, q12⟩ := hq
   obtain ⟨e0, e1, e2, e3, e4, e5⟩ := six_len q1 q2 q3 q4 q5 q6
   first | exact h363 q0 | omega | exact h363 (numU q1 q2 q3 q4) | exact h363 (packU_six q0 q1 q2 q3 q4)
  exact ⟨u_no HNO, S365.below⟩
 refine Ys ?_
 refine Fl 2 ?_
 refine Ys ?_
 refine Ap 0 2 S356 qV_2 ?_
 refine Ys ?_
 refine P3 ?_
 refine Td 114 (fun h366 => ?_) (fun h366 => ?_)
 ·iterate 3 refine No ?_
  refine P2 ?_
  iterate 3 refine No ?_
  refine Pv (T_nil ?_)
  refine W_cond_true rfl (Wr (Ag (cells := (qz32 : Value).cells) ?_))
  refine Ak (hl := by exact qs32) (hl2 := by exact qs32) (h1 := by exact qV_one) 1 S356 fun w367 S368 => ?_
  refine Pv (T_nil (W_ret ?_))
  refine ⟨_, ⟨_, _, _, rfl, rfl, run_loadVarA rfl rfl (qs32) (S368.cells 1 rfl), ⟨_, _, rfl, rfl, rfl⟩⟩, ?_⟩
  have HNO : ¬ UebOk b := by
   intro hq
   obtain ⟨q0, q1, q2, q3, q4, q5, q6, q7, q8, q9, q10, q11, q12⟩ := hq
   obtain ⟨e0, e1, e2, e3, e4, e5⟩ := six_len q1 q2 q3 q4 q5 q6
   first | exact h366 q0 | omega | exact h366 (numU q1 q2 q3 q4) | exact h366 (packU_six q0 q1 q2 q3 q4)
  exact ⟨u_no HNO, S368.below⟩
 refine Ys ?_
 refine Fl 2 ?_
 refine Ys ?_
 refine Ap 0 2 S356 qV_2 ?_
 refine Ys ?_
 refine P3 ?_
 refine Td 119 (fun h369 => ?_) (fun h369 => ?_)
 ·iterate 3 refine No ?_
  refine Pv (T_nil ?_)
  refine W_cond_true rfl (Wr (Ag (cells := (qz32 : Value).cells) ?_))
  refine Ak (hl := by exact qs32) (hl2 := by exact qs32) (h1 := by exact qV_one) 1 S356 fun w370 S371 => ?_
  refine Pv (T_nil (W_ret ?_))
  refine ⟨_, ⟨_, _, _, rfl, rfl, run_loadVarA rfl rfl (qs32) (S371.cells 1 rfl), ⟨_, _, rfl, rfl, rfl⟩⟩, ?_⟩
  have HNO : ¬ UebOk b := by
   intro hq
   obtain ⟨q0, q1, q2, q3, q4, q5, q6, q7, q8, q9, q10, q11, q12⟩ := hq
   obtain ⟨e0, e1, e2, e3, e4, e5⟩ := six_len q1 q2 q3 q4 q5 q6
   first | exact h369 q0 | omega | exact h369 (numU q1 q2 q3 q4) | exact h369 (packU_six q0 q1 q2 q3 q4)
  exact ⟨u_no HNO, S371.below⟩
 refine Ys ?_
 refine Fl 3 ?_
 refine Ys ?_
 refine Ap 0 3 S356 qV_3 ?_
 refine Ys ?_
 refine P2 (T_nil ?_)
 refine W_cond_not rfl (fun h372 => ?_) (fun h372 => ?_)
 ·refine Wr (Ag (cells := (qz32 : Value).cells) ?_)
  refine Ak (hl := by exact qs32) (hl2 := by exact qs32) (h1 := by exact qV_one) 1 S356 fun w373 S374 => ?_
  refine Pv (T_nil (W_ret ?_))
  refine ⟨_, ⟨_, _, _, rfl, rfl, run_loadVarA rfl rfl (qs32) (S374.cells 1 rfl), ⟨_, _, rfl, rfl, rfl⟩⟩, ?_⟩
  have HNO : ¬ UebOk b := by
   intro hq
   obtain ⟨q0, q1, q2, q3, q4, q5, q6, q7, q8, q9, q10, q11, q12⟩ := hq
   obtain ⟨e0, e1, e2, e3, e4, e5⟩ := six_len q1 q2 q3 q4 q5 q6
   first | exact h372 q0 | omega | exact h372 (numU q1 q2 q3 q4) | exact h372 (packU_six q0 q1 q2 q3 q4)
  exact ⟨u_no HNO, S374.below⟩
 refine W_skip (Wr (An (hl := by exact qV_sz (q_len HL4 HL5 rfl)) 0 S356 ?_))
 refine Ak (hl := by exact qV_sz (q_len HL4 HL5 rfl)) (hl2 := by exact qV_sz (q_len HL4 HL5 rfl)) (h1 := by exact qV_one) 1 S356 fun w375 S376 => ?_
 refine Pv (T_nil (W_ret ?_))
 refine ⟨_, ⟨_, _, _, rfl, rfl, run_loadVarA rfl rfl (qV_sz (q_len HL4 HL5 rfl)) (S376.cells 1 rfl), ⟨_, _, rfl, rfl, rfl⟩⟩, ?_⟩
 exact ⟨u_yes ⟨HA, HQ0, HQ1, HQ2, HQ3, HL4, HL5, by omega, by omega, by omega, by omega, by omega, by omega⟩, S376.below⟩




theorem ueb_nil : ¬ UebOk [] := fun h => absurd (h.1.1 0 (by decide)).1 (by decide)
theorem ueb_tag : (tagged [117, 101, 98] [[]]).take 4 = [65, 92, 97, 191] := by kernel_rfl
theorem ueb_zero : ¬ tagged [117, 101, 98] [[]] = List.replicate 32 0 := by
 intro h
 have := ueb_tag
 rw [h] at this
 exact absurd this (by decide)
theorem wakes_ok {H : Hp} {w : World} (hH : H.le (hw w)) (hT : Tabs H) :
  Calls Tryz.prog 12 #[] w fun e w' => e = .returned (.bool true) ∧ Below w.heap.size w w' := by
 refine enter0 _ Tryz.func12 rfl Tryz.ntmps12 Tryz.results12 ?_
 have S0 := St.start w hH
 refine Wr (Pv (Nr ?_))
 refine T_callS rfl rfl g_aumbry_layout_Unpack rfl rfl rfl rfl ((unpackU_ok S0.le hT (nilB _) (by first | omega | decide)).mono ?_)
 rintro e w2 ⟨rfl, hB1⟩
 have S3 := S0.call hB1
 refine ⟨_, rfl, trivial, ?_⟩
 refine P3 ?_
 refine Af S3 fun b4 w5 S6 => ?_
 refine Ak (hl := by exact qV_sz (q_len (uH4 _) (uH5 _) rfl)) (hl2 := by exact qV_sz (q_len (uH4 _) (uH5 _) rfl)) (h1 := by exact qV_one) 0 S6 fun w7 S8 => ?_
 refine Pv (Nr ?_)
 refine P3 ?_
 refine T_bool 9 true rfl (ndec_t ueb_nil) (Ys ?_)
 refine T_callS rfl rfl g_aumbry_layout_Print rfl rfl rfl rfl ((print_ok S8.le hT (nilB _) (by first | omega | decide)).mono ?_)
 rintro e w10 ⟨rfl, hB9⟩
 have S11 := S8.call hB9
 refine ⟨_, rfl, trivial, ?_⟩
 refine Ys ?_
 refine T_buildA (cells := (hV (List.replicate 32 0)).cells) rfl rfl rfl rfl rfl rfl rfl rfl rfl rfl (Ys ?_)
 refine T_neB (xs := tagged [117, 101, 98] [([] : List UInt8)]) (ys := (List.replicate 32 0)) rfl rfl rfl rfl rfl rfl rfl rfl rfl rfl rfl (tagged_len _ _) List.length_replicate (T_re (v' := .bool true) (congrArg Value.bool (ndec_t ueb_zero)) (P2 (T_nil (W_ret ?_))))
 refine ⟨_, ⟨_, _, rfl, rfl, rfl⟩, ?_⟩
 exact ⟨rfl, S11.below⟩





end Go.Proofs.YtmjmjjkigblbgaaGreatDoor
namespace Go.Proofs.YtmjmjjkigblbgaaGreatDoor
open Go Go.ChangeShapes Go.WideShapes Go.ChangeAt Go.RowKit

theorem own : ownKnob Tryz.prog.godebug = none := by kernel_rfl
theorem laidOut : laidOutB Tryz.prog = true := by kernel_rfl
theorem gPow : Tryz.prog.globalNamed "internal/strconv.uint64pow10" = some 0 := by kernel_rfl
theorem tPow : (Tryz.prog.globals[0]?).map (·.type) = some 196 := by kernel_rfl
def theLaid : List (String × DataW Unit) := [("math/bits.deBruijn32tab", Rows.laid_math_bits_deBruijn32tab), ("math/bits.deBruijn64tab", Rows.laid_math_bits_deBruijn64tab), ("internal/strconv.uint64pow10", Rows.laid_internal_strconv_uint64pow10)]

theorem tabs_of {W : World} (h : laidMetH Tryz.prog theLaid W) : Tabs (F.hw W) := by
 rw [MakeChecks.laidMetH_plain _ _ _ (by kernel_rfl)] at h
 obtain ⟨ps, ⟨_, _, _, _, _, _, _, _, _, _, ⟨_, _, _, _, _, _, _, _, _, _, ⟨g2, t2, cs2, f2, p2, q2, hg2, ht2, hv2, hd2, _, _⟩, _⟩, _⟩, _, _⟩ := h
 obtain rfl := Option.some.inj (gPow.symm.trans hg2)
 obtain rfl := Option.some.inj (tPow.symm.trans ht2)
 have hl : cs2.toList = ((List.range 20).map fun i => ((10 ^ i : Nat) : Int)).map (Value.int .u64) :=
  F.laid_ints (zs := (List.range 20).map fun i => ((10 ^ i : Nat) : Int)) Tryz.underlying196 Tryz.underlying152 (by kernel_rfl) (by kernel_rfl) hd2
 intro i hi
 refine F.hcell_of_cell ?_
 rw [World.var?_cell hg2 hv2 i, ← Array.getElem?_toList, hl]
 simp [hi]

theorem door_met (os : Os) (args : Array Value) : laidMetH Tryz.prog theLaid ((World.doorLaid Tryz.prog 400 os).forCall (fun _ _ => 0) ⟨#[], args, []⟩).memory :=
 laidMetH_of_parts3 (fuel := 8) (laidMet_of_run' 8 (by kernel_rfl) (by kernel_rfl)) (by kernel_rfl) (by kernel_rfl)
theorem door_shaped (os : Os) (args : Array Value) : ((World.doorLaid Tryz.prog 400 os).forCall (fun _ _ => 0) ⟨#[], args, []⟩).Shaped Tryz.prog :=
 World.shaped_of_RefB (by kernel_rfl) (by kernel_rfl)
end Go.Proofs.YtmjmjjkigblbgaaGreatDoor
