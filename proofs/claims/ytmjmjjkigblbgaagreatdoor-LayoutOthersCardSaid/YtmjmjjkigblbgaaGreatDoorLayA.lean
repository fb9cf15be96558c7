/- Rows out of any bytes. -/
import Derived.Test.YtmjmjjkigblbgaaGreatDoorTab2
import Derived.Test.YtmjmjjkigblbgaaGreatDoorAuDoor
import Derived.Test.YtmjmjjkigblbgaaGreatDoorFDoor
set_option linter.unusedVariables false
set_option linter.unusedSimpArgs false
set_option maxRecDepth 8192

namespace Go.Proofs.YtmjmjjkigblbgaaGreatDoor
open Go Go.F Go.RowKit
open Go.Au

theorem tn_none {H : Hp} {w w' : World} {b : List UInt8} (h : ¬ NetOk b) (hB : Below w.heap.size w w') :
  ∃ a c a' c', Ending.returned (.tuple #[.slice none 0 0, .slice none 0 0, .bool false]) = .returned (.tuple #[.slice a (tn1 b).length c, .slice a' (tn2 b).length c', .bool (decide (NetOk b))]) ∧
   Rd (F.ext H w.heap.size w') (.slice a (tn1 b).length c) (tn1 b).length 1 ((tn1 b).map bV) ∧ Rd (F.ext H w.heap.size w') (.slice a' (tn2 b).length c') (tn2 b).length 1 ((tn2 b).map bV) ∧ Below w.heap.size w w' := by
 rw [tn1_no h, tn2_no h, decide_eq_false h]
 exact ⟨none, 0, none, 0, rfl, Rd.nil _ _, Rd.nil _ _, hB⟩
theorem tn_some {H : Hp} {w w' : World} {b : List UInt8} (h : NetOk b) {a a' : Option Addr} {n1 n2 c c' : Nat} (e1 : n1 = (tn1 b).length) (e2 : n2 = (tn2 b).length)
  (r1 : Rd (F.ext H w.heap.size w') (.slice a n1 c) n1 1 ((tn1 b).map bV)) (r2 : Rd (F.ext H w.heap.size w') (.slice a' n2 c') n2 1 ((tn2 b).map bV)) (hB : Below w.heap.size w w') :
  ∃ a1 c1 a1' c1', Ending.returned (.tuple #[.slice a n1 c, .slice a' n2 c', .bool true]) = .returned (.tuple #[.slice a1 (tn1 b).length c1, .slice a1' (tn2 b).length c1', .bool (decide (NetOk b))]) ∧
   Rd (F.ext H w.heap.size w') (.slice a1 (tn1 b).length c1) (tn1 b).length 1 ((tn1 b).map bV) ∧ Rd (F.ext H w.heap.size w') (.slice a1' (tn2 b).length c1') (tn2 b).length 1 ((tn2 b).map bV) ∧ Below w.heap.size w w' := by
 subst e1; subst e2
 rw [decide_eq_true h]
 exact ⟨a, c, a', c', rfl, r1, r2, hB⟩
theorem size_ok {H : Hp} {w : World} (hH : H.le (hw w)) {b : List UInt8} {aa0 : Option Addr} {nn0 cc0 : Nat} (hv : Rd H (.slice aa0 nn0 cc0) nn0 1 (b.map bV)) (hb : b.length ≤ 1000000) :
  Calls Tryz.prog 132 #[.slice aa0 nn0 cc0] w fun e w' => ∃ d, e = .returned (.tuple #[.int .i64 ((dval (b.take d) : Nat) : Int), .int .i64 ((d : Nat) : Int)]) ∧ d ≤ (Go.Au.lead b).length ∧ d ≤ 1000000 ∧ Go.Au.Told b d (dval (b.take d)) ∧ Below w.heap.size w w' := by
 obtain rfl : nn0 = b.length := hv.lenB
 have hvcap : b.length ≤ cc0 := hv.capOf
 have hld := lead_le b
 have hd0 : dval (b.take 0) = 0 := rfl
 refine enter1 _ Tryz.func132 rfl Tryz.ntmps132 Tryz.results132 rfl ?_
 have S0 := St.start w hH
 refine Wr ?_
 iterate 2 refine Pv ?_
 refine T_nil (W_seq (W_block ?_))
 refine W_loop (fun M ρ w' => ∃ (k : Nat) (G1 : Hp), M = (Go.Au.lead b).length - k ∧ k ≤ (Go.Au.lead b).length ∧ dval (b.take k) ≤ 1000000 ∧ ρ = [(0, .slice aa0 b.length cc0), (2, .int .i64 ((dval (b.take k) : Nat) : Int)), (3, .int .i64 (k : Int))] ∧ H.le G1 ∧ St w H G1 [] w')
  ((Go.Au.lead b).length - 0) [(0, .slice aa0 b.length cc0), (2, .int .i64 ((dval (b.take 0) : Nat) : Int)), (3, .int .i64 ((0 : Nat) : Int))] ⟨rfl, ciI, ciI, trivial⟩ ⟨0, H, rfl, (by exact Nat.zero_le _), (by omega), rfl, Hp.le.refl _, S0⟩ ?_
 rintro M ρ w3 ⟨k, G1, rfl, hp5, hp6, rfl, hl2, S4⟩
 have hat := lead_at b k (by assumption)
 have hbl := (b.getD k 0).toNat_lt
 refine W_seq (Wr ?_)
 iterate 5 refine Pv ?_
 refine Tp 8 (fun h7' => ?_) (fun h7' => ?_)
 ·have h7 := of_decide_eq_true h7'
  iterate 2 (refine Ys ?_; refine Pv ?_)
  refine Ys ?_
  refine Ag k (hv.mono hl2) fun b8 o9 hc10 => ?_
  have hc11 := hc10 0 (bV (b.getD k 0)) (at_b b k (by omega))
  simp only [Nat.add_zero] at hc11
  refine Ys ?_
  refine Ac S4 hc11 ?_
  refine Ys ?_
  iterate 3 refine Pv ?_
  refine Tp 15 (fun h12' => ?_) (fun h12' => ?_)
  ·have h12 := of_decide_eq_true h12'
   iterate 2 (refine Ys ?_; refine Pv ?_)
   refine Ys ?_
   refine Ag k (hv.mono hl2) fun b13 o14 hc15 => ?_
   have hc16 := hc15 0 (bV (b.getD k 0)) (at_b b k (by omega))
   simp only [Nat.add_zero] at hc16
   refine Ys ?_
   refine Ac S4 hc16 ?_
   refine Ys ?_
   iterate 3 refine Pv ?_
   refine Tp 22 (fun h17' => ?_) (fun h17' => ?_)
   ·have h17 := of_decide_eq_true h17'
    iterate 2 (refine Ys ?_; refine Pv ?_)
    refine Pv (T_nil ?_)
    refine Aa (fun h18 => ?_) (fun h18 => ?_)
    ·refine W_skip (W_block (Wr ?_))
     have hdv := dval_take (l := b) (k := k) (by omega)
     refine Pv ?_
     refine Ar ?_
     iterate 2 refine Pv ?_
     refine Ag k (hv.mono hl2) fun b19 o20 hc21 => ?_
     have hc22 := hc21 0 (bV (b.getD k 0)) (at_b b k (by omega))
     simp only [Nat.add_zero] at hc22
     refine Ac S4 hc22 ?_
     refine Pv ?_
     refine T_re (v' := .int .u8 (((b.getD k 0).toNat - 48 : Nat) : Int)) (congrArg (Value.int .u8) (by rw [IntKind.wrap_u8]; omega)) ?_
     refine Pv ?_
     refine T_re (v' := .int .i64 (((b.getD k 0).toNat - 48 : Nat) : Int)) (congrArg (Value.int .i64) (by rw [wrap64_id (by omega) (by omega)])) ?_
     refine Ar ?_
     refine Pv (T_nil (W_region ?_))
     refine Pv ?_
     refine Ar ?_
     refine Pv (T_nil ?_)
     exact ⟨(Go.Au.lead b).length - (k + 1), [(0, .slice aa0 b.length cc0), (2, .int .i64 ((dval (b.take (k + 1)) : Nat) : Int)), (3, .int .i64 ((k + 1 : Nat) : Int))], by omega, ⟨rfl, ciI, ciI, trivial⟩, k + 1, G1, rfl, (by omega), (by omega), rfl, hl2, S4⟩
    refine W_exit (Wr ?_)
    iterate 4 refine Pv ?_
    refine T_nil (W_ret ?_)
    refine ⟨_, ⟨_, _, rfl, rfl, ⟨_, _, rfl, rfl, rfl⟩⟩, ?_⟩
    exact ⟨k, rfl, by assumption, by omega, told_size (by assumption) (by omega), S4.below⟩
   have h17 := of_decide_eq_false h17'
   iterate 2 refine No ?_
   refine Pv (T_nil ?_)
   refine W_cond_false rfl (W_exit (Wr ?_))
   iterate 4 refine Pv ?_
   refine T_nil (W_ret ?_)
   refine ⟨_, ⟨_, _, rfl, rfl, ⟨_, _, rfl, rfl, rfl⟩⟩, ?_⟩
   exact ⟨k, rfl, by assumption, by omega, told_size (by assumption) (by omega), S4.below⟩
  have h12 := of_decide_eq_false h12'
  iterate 5 refine No ?_
  iterate 2 refine Pv ?_
  iterate 2 refine No ?_
  refine Pv (T_nil ?_)
  refine W_cond_false rfl (W_exit (Wr ?_))
  iterate 4 refine Pv ?_
  refine T_nil (W_ret ?_)
  refine ⟨_, ⟨_, _, rfl, rfl, ⟨_, _, rfl, rfl, rfl⟩⟩, ?_⟩
  exact ⟨k, rfl, by assumption, by omega, told_size (by assumption) (by omega), S4.below⟩
 have h7 := of_decide_eq_false h7'
 iterate 5 refine No ?_
 iterate 2 refine Pv ?_
 iterate 5 refine No ?_
 iterate 2 refine Pv ?_
 iterate 2 refine No ?_
 refine Pv (T_nil ?_)
 refine W_cond_false rfl (W_exit (Wr ?_))
 iterate 4 refine Pv ?_
 refine T_nil (W_ret ?_)
 refine ⟨_, ⟨_, _, rfl, rfl, ⟨_, _, rfl, rfl, rfl⟩⟩, ?_⟩
 exact ⟨k, rfl, by assumption, by omega, told_size (by assumption) (by omega), S4.below⟩


theorem takeNet_ok {H : Hp} {w : World} (hH : H.le (hw w)) {b : List UInt8} {aa0 : Option Addr} {nn0 cc0 : Nat} (hv : Rd H (.slice aa0 nn0 cc0) nn0 1 (b.map bV)) (hb : b.length ≤ 1000000) :
  Calls Tryz.prog 104 #[.slice aa0 nn0 cc0] w fun e w' => ∃ a c a' c', e = .returned (.tuple #[.slice a (tn1 b).length c, .slice a' (tn2 b).length c', .bool (decide (NetOk b))]) ∧ Rd (F.ext H w.heap.size w') (.slice a (tn1 b).length c) (tn1 b).length 1 ((tn1 b).map bV) ∧ Rd (F.ext H w.heap.size w') (.slice a' (tn2 b).length c') (tn2 b).length 1 ((tn2 b).map bV) ∧ Below w.heap.size w w' := by
 obtain rfl : nn0 = b.length := hv.lenB
 have hvcap : b.length ≤ cc0 := hv.capOf
 refine enter1 _ Tryz.func104 rfl Tryz.ntmps104 Tryz.results104 rfl ?_
 have S0 := St.start w hH
 refine Wr ?_
 iterate 3 refine Pv ?_
 refine Nr (Pv ?_)
 refine Cs g_aumbry_code_size ((size_ok S0.le hv (by omega)).mono ?_)
 rintro e w6 ⟨d1, rfl, hd2, hd3, ht4, hB5⟩
 have S7 := S0.call hB5
 refine ⟨_, rfl, trivial, ?_⟩
 have hll := lead_le b
 generalize dval (b.take d1) = n8 at *
 iterate 5 refine Pv ?_
 refine T_nil (W_seq (W_block (Wr ?_)))
 iterate 3 refine Pv ?_
 refine Tp 15 (fun h9' => ?_) (fun h9' => ?_)
 ·have h9 := of_decide_eq_true h9'
  iterate 3 refine No ?_
  iterate 4 refine T_un rfl rfl rfl rfl rfl ?_
  refine No ?_
  iterate 2 refine Pv ?_
  iterate 2 refine No ?_
  iterate 2 refine Pv ?_
  refine T_nil (W_cond_true rfl (Wr ?_))
  iterate 3 refine Pv ?_
  refine T_nil (W_ret ?_)
  refine ⟨_, ⟨_, _, rfl, rfl, ⟨_, _, rfl, rfl, ⟨_, _, rfl, rfl, rfl⟩⟩⟩, ?_⟩
  exact tn_none (told_no ht4 (by omega)) S7.below
 have h9 := of_decide_eq_false h9'
 iterate 3 (refine Ys ?_; refine Pv ?_)
 refine Tp 18 (fun h10' => ?_) (fun h10' => ?_)
 ·have h10 := of_decide_eq_true h10'
  refine Ys ?_
  refine Pv ?_
  refine Ys ?_
  refine Ag 0 hv fun b11 o12 hc13 => ?_
  have hc14 := hc13 0 (bV (b.getD 0 0)) (at_b b 0 (by omega))
  simp only [Nat.add_zero] at hc14
  refine Ys ?_
  refine Ac S7 hc14 ?_
  iterate 2 (refine Ys ?_; refine Pv ?_)
  iterate 2 refine Pv ?_
  refine Tp 25 (fun h15' => ?_) (fun h15' => ?_)
  ·have h15 := of_decide_eq_true h15'
   iterate 2 refine No ?_
   iterate 2 refine Pv ?_
   refine T_nil (W_cond_true rfl (Wr ?_))
   iterate 3 refine Pv ?_
   refine T_nil (W_ret ?_)
   refine ⟨_, ⟨_, _, rfl, rfl, ⟨_, _, rfl, rfl, ⟨_, _, rfl, rfl, rfl⟩⟩⟩, ?_⟩
   exact tn_none (told_no ht4 (by omega)) S7.below
  have h15 := of_decide_eq_false h15'
  iterate 2 (refine Ys ?_; refine Pv ?_)
  iterate 2 refine Pv ?_
  refine T_nil (Aa (fun h16 => ?_) (fun h16 => ?_))
  ·refine Wr ?_
   iterate 3 refine Pv ?_
   refine T_nil (W_ret ?_)
   refine ⟨_, ⟨_, _, rfl, rfl, ⟨_, _, rfl, rfl, ⟨_, _, rfl, rfl, rfl⟩⟩⟩, ?_⟩
   exact tn_none (told_no ht4 (by omega)) S7.below
  refine Wr ?_
  iterate 4 refine Pv ?_
  iterate 2 refine Ar ?_
  iterate 2 refine Pv ?_
  refine Tp 37 (fun h17' => ?_) (fun h17' => ?_)
  ·have h17 := of_decide_eq_true h17'
   iterate 5 refine No ?_
   iterate 2 refine Pv ?_
   iterate 8 refine No ?_
   iterate 2 refine Pv ?_
   refine T_nil (W_cond_true rfl (Wr ?_))
   iterate 3 refine Pv ?_
   refine T_nil (W_ret ?_)
   refine ⟨_, ⟨_, _, rfl, rfl, ⟨_, _, rfl, rfl, ⟨_, _, rfl, rfl, rfl⟩⟩⟩, ?_⟩
   exact tn_none (told_no ht4 (by omega)) S7.below
  have h17 := of_decide_eq_false h17'
  iterate 2 (refine Ys ?_; refine Pv ?_)
  refine Ys ?_
  refine Ag d1 hv fun b18 o19 hc20 => ?_
  have hc21 := hc20 0 (bV (b.getD d1 0)) (at_b b d1 (by omega))
  simp only [Nat.add_zero] at hc21
  refine Ys ?_
  refine Ac S7 hc21 ?_
  refine Ys ?_
  iterate 3 refine Pv ?_
  refine Tp 44 (fun h22' => ?_) (fun h22' => ?_)
  ·have h22 := of_ndec_t h22'
   iterate 8 refine No ?_
   iterate 2 refine Pv ?_
   refine T_nil (W_cond_true rfl (Wr ?_))
   iterate 3 refine Pv ?_
   refine T_nil (W_ret ?_)
   refine ⟨_, ⟨_, _, rfl, rfl, ⟨_, _, rfl, rfl, ⟨_, _, rfl, rfl, rfl⟩⟩⟩, ?_⟩
   exact tn_none (told_no ht4 (by omega)) S7.below
  have h22 := of_ndec_f h22'
  iterate 2 (refine Ys ?_; refine Pv ?_)
  refine Ys ?_
  refine Ar ?_
  refine Ys ?_
  refine Pv ?_
  refine Ys ?_
  refine Ar ?_
  refine Ys ?_
  refine Ag ((d1 + 1) + n8) hv fun b23 o24 hc25 => ?_
  have hc26 := hc25 0 (bV (b.getD ((d1 + 1) + n8) 0)) (at_b b ((d1 + 1) + n8) (by omega))
  simp only [Nat.add_zero] at hc26
  refine Ys ?_
  refine Ac S7 hc26 ?_
  refine Ys ?_
  iterate 3 refine Pv ?_
  refine T_nil (W_cond_not rfl (fun h27 => ?_) (fun h27 => ?_))
  ·refine Wr ?_
   iterate 3 refine Pv ?_
   refine T_nil (W_ret ?_)
   refine ⟨_, ⟨_, _, rfl, rfl, ⟨_, _, rfl, rfl, ⟨_, _, rfl, rfl, rfl⟩⟩⟩, ?_⟩
   exact tn_none (told_no ht4 (by omega)) S7.below
  refine W_skip (Wr ?_)
  have HY := told_yes ht4 (by omega) (by omega) (by omega) (by omega) (by omega) (by omega)
  have HL1 := tn1_len HY.1
  have HL2 := tn2_len HY.1
  iterate 2 refine Pv ?_
  iterate 2 (refine Ar ?_; refine Pv ?_)
  refine Ar ?_
  refine T_sliceR (d1 + 1) ((d1 + 1) + n8) hv rfl rfl rfl rfl rfl rfl rfl rfl rfl rfl (bound_of (by omega)) (bound_of (by omega)) (by omega) (by omega) fun a28 c29 hc30 r31 => ?_
  have r32 := Rd.cutB r31
  have r33 : Rd H (.slice a28 (((d1 + 1) + n8) - (d1 + 1)) c29) (((d1 + 1) + n8) - (d1 + 1)) 1 ((tn1 b).map bV) := by rw [told_cut1 HY] at r32; exact r32
  have S34 := S7.nilRow 5 1
  refine Af (h1 := by exact one_bV _) (hn' := by first | rfl | (simp; done) | (simp; omega) | omega) (hx' := by simp) (hbytes := by show _ * 1 ≤ _; omega) 0 ((tn1 b).length) ((tn1 b).map bV) S34 (r33.mono S34.le) fun a35 c36 w37 hc38 S39 => ?_
  refine Pv (Nr ?_)
  iterate 3 refine Pv ?_
  iterate 2 refine Ar ?_
  refine T_sliceR ((d1 + n8) + 2) b.length hv rfl rfl rfl rfl rfl rfl rfl rfl rfl rfl (by first | rfl | exact congrArg some (by omega)) (bound_of (by omega)) (by omega) (by omega) fun a40 c41 hc42 r43 => ?_
  have r44 := Rd.cutB r43
  have r45 : Rd H (.slice a40 (b.length - ((d1 + n8) + 2)) c41) (b.length - ((d1 + n8) + 2)) 1 ((tn2 b).map bV) := by rw [told_cut2 HY] at r44; exact r44
  have S46 := S39.nilRow 5 1
  refine Af (h1 := by exact one_bV _) (hn' := by first | rfl | (simp; done) | (simp; omega) | omega) (hx' := by simp) (hbytes := by show _ * 1 ≤ _; omega) 0 ((tn2 b).length) ((tn2 b).map bV) S46 (r45.mono S46.le) fun a47 c48 w49 hc50 S51 => ?_
  refine Pv (Nr ?_)
  iterate 5 refine Pv ?_
  refine T_nil (W_ret ?_)
  refine ⟨_, ⟨_, _, rfl, rfl, ⟨_, _, rfl, rfl, ⟨_, _, rfl, rfl, rfl⟩⟩⟩, ?_⟩
  exact tn_some HY.1 rfl rfl (Rd.of_own_ext (S51.row 1 rfl)) (Rd.of_own_ext (S51.row 0 rfl)) S51.below
 have h10 := of_decide_eq_false h10'
 iterate 4 refine No ?_
 refine Ys ?_
 iterate 3 refine Pv ?_
 iterate 2 (refine Ys ?_; refine Pv ?_)
 iterate 2 refine Pv ?_
 refine T_nil (Aa (fun h52 => ?_) (fun h52 => ?_))
 ·refine Wr ?_
  iterate 3 refine Pv ?_
  refine T_nil (W_ret ?_)
  refine ⟨_, ⟨_, _, rfl, rfl, ⟨_, _, rfl, rfl, ⟨_, _, rfl, rfl, rfl⟩⟩⟩, ?_⟩
  exact tn_none (told_no ht4 (by omega)) S7.below
 refine Wr ?_
 iterate 4 refine Pv ?_
 iterate 2 refine Ar ?_
 iterate 2 refine Pv ?_
 refine Tp 37 (fun h53' => ?_) (fun h53' => ?_)
 ·have h53 := of_decide_eq_true h53'
  iterate 5 refine No ?_
  iterate 2 refine Pv ?_
  iterate 8 refine No ?_
  iterate 2 refine Pv ?_
  refine T_nil (W_cond_true rfl (Wr ?_))
  iterate 3 refine Pv ?_
  refine T_nil (W_ret ?_)
  refine ⟨_, ⟨_, _, rfl, rfl, ⟨_, _, rfl, rfl, ⟨_, _, rfl, rfl, rfl⟩⟩⟩, ?_⟩
  exact tn_none (told_no ht4 (by omega)) S7.below
 have h53 := of_decide_eq_false h53'
 iterate 2 (refine Ys ?_; refine Pv ?_)
 refine Ys ?_
 refine Ag d1 hv fun b54 o55 hc56 => ?_
 have hc57 := hc56 0 (bV (b.getD d1 0)) (at_b b d1 (by omega))
 simp only [Nat.add_zero] at hc57
 refine Ys ?_
 refine Ac S7 hc57 ?_
 refine Ys ?_
 iterate 3 refine Pv ?_
 refine Tp 44 (fun h58' => ?_) (fun h58' => ?_)
 ·have h58 := of_ndec_t h58'
  iterate 8 refine No ?_
  iterate 2 refine Pv ?_
  refine T_nil (W_cond_true rfl (Wr ?_))
  iterate 3 refine Pv ?_
  refine T_nil (W_ret ?_)
  refine ⟨_, ⟨_, _, rfl, rfl, ⟨_, _, rfl, rfl, ⟨_, _, rfl, rfl, rfl⟩⟩⟩, ?_⟩
  exact tn_none (told_no ht4 (by omega)) S7.below
 have h58 := of_ndec_f h58'
 iterate 2 (refine Ys ?_; refine Pv ?_)
 refine Ys ?_
 refine Ar ?_
 refine Ys ?_
 refine Pv ?_
 refine Ys ?_
 refine Ar ?_
 refine Ys ?_
 refine Ag ((d1 + 1) + n8) hv fun b59 o60 hc61 => ?_
 have hc62 := hc61 0 (bV (b.getD ((d1 + 1) + n8) 0)) (at_b b ((d1 + 1) + n8) (by omega))
 simp only [Nat.add_zero] at hc62
 refine Ys ?_
 refine Ac S7 hc62 ?_
 refine Ys ?_
 iterate 3 refine Pv ?_
 refine T_nil (W_cond_not rfl (fun h63 => ?_) (fun h63 => ?_))
 ·refine Wr ?_
  iterate 3 refine Pv ?_
  refine T_nil (W_ret ?_)
  refine ⟨_, ⟨_, _, rfl, rfl, ⟨_, _, rfl, rfl, ⟨_, _, rfl, rfl, rfl⟩⟩⟩, ?_⟩
  exact tn_none (told_no ht4 (by omega)) S7.below
 refine W_skip (Wr ?_)
 have HY := told_yes ht4 (by omega) (by omega) (by omega) (by omega) (by omega) (by omega)
 have HL1 := tn1_len HY.1
 have HL2 := tn2_len HY.1
 iterate 2 refine Pv ?_
 iterate 2 (refine Ar ?_; refine Pv ?_)
 refine Ar ?_
 refine T_sliceR (d1 + 1) ((d1 + 1) + n8) hv rfl rfl rfl rfl rfl rfl rfl rfl rfl rfl (bound_of (by omega)) (bound_of (by omega)) (by omega) (by omega) fun a64 c65 hc66 r67 => ?_
 have r68 := Rd.cutB r67
 have r69 : Rd H (.slice a64 (((d1 + 1) + n8) - (d1 + 1)) c65) (((d1 + 1) + n8) - (d1 + 1)) 1 ((tn1 b).map bV) := by rw [told_cut1 HY] at r68; exact r68
 have S70 := S7.nilRow 5 1
 refine Af (h1 := by exact one_bV _) (hn' := by first | rfl | (simp; done) | (simp; omega) | omega) (hx' := by simp) (hbytes := by show _ * 1 ≤ _; omega) 0 ((tn1 b).length) ((tn1 b).map bV) S70 (r69.mono S70.le) fun a71 c72 w73 hc74 S75 => ?_
 refine Pv (Nr ?_)
 iterate 3 refine Pv ?_
 iterate 2 refine Ar ?_
 refine T_sliceR ((d1 + n8) + 2) b.length hv rfl rfl rfl rfl rfl rfl rfl rfl rfl rfl (by first | rfl | exact congrArg some (by omega)) (bound_of (by omega)) (by omega) (by omega) fun a76 c77 hc78 r79 => ?_
 have r80 := Rd.cutB r79
 have r81 : Rd H (.slice a76 (b.length - ((d1 + n8) + 2)) c77) (b.length - ((d1 + n8) + 2)) 1 ((tn2 b).map bV) := by rw [told_cut2 HY] at r80; exact r80
 have S82 := S75.nilRow 5 1
 refine Af (h1 := by exact one_bV _) (hn' := by first | rfl | (simp; done) | (simp; omega) | omega) (hx' := by simp) (hbytes := by show _ * 1 ≤ _; omega) 0 ((tn2 b).length) ((tn2 b).map bV) S82 (r81.mono S82.le) fun a83 c84 w85 hc86 S87 => ?_
 refine Pv (Nr ?_)
 iterate 5 refine Pv ?_
 refine T_nil (W_ret ?_)
 refine ⟨_, ⟨_, _, rfl, rfl, ⟨_, _, rfl, rfl, ⟨_, _, rfl, rfl, rfl⟩⟩⟩, ?_⟩
 exact tn_some HY.1 rfl rfl (Rd.of_own_ext (S87.row 1 rfl)) (Rd.of_own_ext (S87.row 0 rfl)) S87.below


theorem takeNetR_ok {H : Hp} {w : World} (hH : H.le (hw w)) {b : List UInt8} {aa0 : Option Addr} {nn0 cc0 : Nat} (hv : Rd H (.slice aa0 nn0 cc0) nn0 1 (b.map bV)) (hb : b.length ≤ 1000000) :
  Calls Tryz.prog 112 #[.slice aa0 nn0 cc0] w fun e w' => ∃ a c a' c', e = .returned (.tuple #[.slice a (tn1 b).length c, .slice a' (tn2 b).length c', .bool (decide (NetOk b))]) ∧ Rd (F.ext H w.heap.size w') (.slice a (tn1 b).length c) (tn1 b).length 1 ((tn1 b).map bV) ∧ Rd (F.ext H w.heap.size w') (.slice a' (tn2 b).length c') (tn2 b).length 1 ((tn2 b).map bV) ∧ Below w.heap.size w w' := by
 obtain rfl : nn0 = b.length := hv.lenB
 have hvcap : b.length ≤ cc0 := hv.capOf
 have hld := lead_le b
 have hd0 : dval (b.take 0) = 0 := rfl
 refine enter1 _ Tryz.func112 rfl Tryz.ntmps112 Tryz.results112 rfl ?_
 have S0 := St.start w hH
 refine Wr ?_
 iterate 3 refine Pv ?_
 refine Nr ?_
 iterate 2 refine Pv ?_
 refine T_nil (W_seq (W_block ?_))
 refine W_loop (fun M ρ w' => ∃ (k : Nat) (G1 : Hp), M = (Go.Au.lead b).length - k ∧ k ≤ (Go.Au.lead b).length ∧ k ≤ 6 ∧ dval (b.take k) < 10 ^ k ∧ ρ = [(0, .slice aa0 b.length cc0), (5, .int .i64 (k : Int)), (6, .int .i64 ((dval (b.take k) : Nat) : Int))] ∧ H.le G1 ∧ St w H G1 [] w')
  ((Go.Au.lead b).length - 0) [(0, .slice aa0 b.length cc0), (5, .int .i64 ((0 : Nat) : Int)), (6, .int .i64 ((dval (b.take 0) : Nat) : Int))] ⟨rfl, ciI, ciI, trivial⟩ ⟨0, H, rfl, (by exact Nat.zero_le _), (by omega), (by rw [hd0]; decide), rfl, Hp.le.refl _, S0⟩ ?_
 rintro M ρ w3 ⟨k, G1, rfl, hp5, hp6, hp7, rfl, hl2, S4⟩
 have hat := lead_at b k (by assumption)
 have hbl := (b.getD k 0).toNat_lt
 have hp6 := Nat.pow_le_pow_right (n := 10) (by decide) (show k ≤ 6 by assumption)
 have hp6 : 10 ^ k ≤ 1000000 := hp6
 refine W_seq (Wr ?_)
 iterate 5 refine Pv ?_
 refine Tp 11 (fun h8' => ?_) (fun h8' => ?_)
 ·have h8 := of_decide_eq_true h8'
  iterate 2 (refine Ys ?_; refine Pv ?_)
  refine Ys ?_
  refine Ag k (hv.mono hl2) fun b9 o10 hc11 => ?_
  have hc12 := hc11 0 (bV (b.getD k 0)) (at_b b k (by omega))
  simp only [Nat.add_zero] at hc12
  refine Ys ?_
  refine Ac S4 hc12 ?_
  refine Ys ?_
  iterate 3 refine Pv ?_
  refine Tp 18 (fun h13' => ?_) (fun h13' => ?_)
  ·have h13 := of_decide_eq_true h13'
   iterate 2 (refine Ys ?_; refine Pv ?_)
   refine Ys ?_
   refine Ag k (hv.mono hl2) fun b14 o15 hc16 => ?_
   have hc17 := hc16 0 (bV (b.getD k 0)) (at_b b k (by omega))
   simp only [Nat.add_zero] at hc17
   refine Ys ?_
   refine Ac S4 hc17 ?_
   refine Ys ?_
   iterate 3 refine Pv ?_
   refine Tp 25 (fun h18' => ?_) (fun h18' => ?_)
   ·have h18 := of_decide_eq_true h18'
    iterate 2 (refine Ys ?_; refine Pv ?_)
    refine Pv (T_nil ?_)
    refine Aa (fun h19 => ?_) (fun h19 => ?_)
    ·refine W_skip (W_block (Wr ?_))
     have hdv := dval_take (l := b) (k := k) (by omega)
     refine Pv ?_
     refine Ar ?_
     iterate 2 refine Pv ?_
     refine Ag k (hv.mono hl2) fun b20 o21 hc22 => ?_
     have hc23 := hc22 0 (bV (b.getD k 0)) (at_b b k (by omega))
     simp only [Nat.add_zero] at hc23
     refine Ac S4 hc23 ?_
     refine Pv ?_
     refine T_re (v' := .int .u8 (((b.getD k 0).toNat - 48 : Nat) : Int)) (congrArg (Value.int .u8) (by rw [IntKind.wrap_u8]; omega)) ?_
     refine Pv ?_
     refine T_re (v' := .int .i64 (((b.getD k 0).toNat - 48 : Nat) : Int)) (congrArg (Value.int .i64) (by rw [wrap64_id (by omega) (by omega)])) ?_
     refine Ar ?_
     refine Pv (T_nil (W_region ?_))
     refine Pv ?_
     refine Ar ?_
     refine Pv (T_nil ?_)
     exact ⟨(Go.Au.lead b).length - (k + 1), [(0, .slice aa0 b.length cc0), (5, .int .i64 ((k + 1 : Nat) : Int)), (6, .int .i64 ((dval (b.take (k + 1)) : Nat) : Int))], by omega, ⟨rfl, ciI, ciI, trivial⟩, k + 1, G1, rfl, (by omega), (by omega), (by rw [Nat.pow_succ]; omega), rfl, hl2, S4⟩
    refine W_exit (W_seq (Wr ?_))
    have HT := told_ref (b := b) (d := k) (by assumption) (by omega)
    generalize dval (b.take k) = n at *
    iterate 3 refine Pv ?_
    refine Tp 42 (fun h24' => ?_) (fun h24' => ?_)
    ·have h24 := of_decide_eq_true h24'
     iterate 4 refine No ?_
     iterate 2 refine Pv ?_
     iterate 5 refine No ?_
     iterate 2 refine Pv ?_
     iterate 5 refine No ?_
     iterate 2 refine T_un rfl rfl rfl rfl rfl ?_
     iterate 2 (refine No ?_; refine Pv ?_; refine Pv ?_; refine No ?_)
     iterate 6 refine No ?_
     iterate 2 refine Pv ?_
     iterate 8 refine No ?_
     refine Pv (T_nil ?_)
     refine W_cond_true rfl (Wr ?_)
     iterate 3 refine Pv ?_
     refine T_nil (W_ret ?_)
     refine ⟨_, ⟨_, _, rfl, rfl, ⟨_, _, rfl, rfl, ⟨_, _, rfl, rfl, rfl⟩⟩⟩, ?_⟩
     exact tn_none (told_no HT (by omega)) S4.below
    have h24 := of_decide_eq_false h24'
    iterate 4 (refine Ys ?_; refine Pv ?_)
    iterate 2 refine Pv ?_
    refine Tp 48 (fun h25' => ?_) (fun h25' => ?_)
    ·have h25 := of_decide_eq_true h25'
     iterate 5 refine No ?_
     iterate 2 refine Pv ?_
     iterate 5 refine No ?_
     iterate 2 refine T_un rfl rfl rfl rfl rfl ?_
     iterate 2 (refine No ?_; refine Pv ?_; refine Pv ?_; refine No ?_)
     iterate 6 refine No ?_
     iterate 2 refine Pv ?_
     iterate 8 refine No ?_
     refine Pv (T_nil ?_)
     refine W_cond_true rfl (Wr ?_)
     iterate 3 refine Pv ?_
     refine T_nil (W_ret ?_)
     refine ⟨_, ⟨_, _, rfl, rfl, ⟨_, _, rfl, rfl, ⟨_, _, rfl, rfl, rfl⟩⟩⟩, ?_⟩
     exact tn_none (told_no HT (by omega)) S4.below
    have h25 := of_decide_eq_false h25'
    iterate 2 (refine Ys ?_; refine Pv ?_)
    refine Ys ?_
    refine Ag k (hv.mono hl2) fun b26 o27 hc28 => ?_
    have hc29 := hc28 0 (bV (b.getD k 0)) (at_b b k (by omega))
    simp only [Nat.add_zero] at hc29
    refine Ys ?_
    refine Ac S4 hc29 ?_
    refine Ys ?_
    iterate 3 refine Pv ?_
    refine Tp 55 (fun h30' => ?_) (fun h30' => ?_)
    ·have h30 := of_ndec_t h30'
     iterate 5 refine No ?_
     iterate 2 refine T_un rfl rfl rfl rfl rfl ?_
     iterate 2 (refine No ?_; refine Pv ?_; refine Pv ?_; refine No ?_)
     iterate 6 refine No ?_
     iterate 2 refine Pv ?_
     iterate 8 refine No ?_
     refine Pv (T_nil ?_)
     refine W_cond_true rfl (Wr ?_)
     iterate 3 refine Pv ?_
     refine T_nil (W_ret ?_)
     refine ⟨_, ⟨_, _, rfl, rfl, ⟨_, _, rfl, rfl, ⟨_, _, rfl, rfl, rfl⟩⟩⟩, ?_⟩
     exact tn_none (told_no HT (by omega)) S4.below
    have h30 := of_ndec_f h30'
    refine Ys ?_
    refine Pv ?_
    refine Ys ?_
    refine Ag 0 (hv.mono hl2) fun b31 o32 hc33 => ?_
    have hc34 := hc33 0 (bV (b.getD 0 0)) (at_b b 0 (by omega))
    simp only [Nat.add_zero] at hc34
    refine Ys ?_
    refine Ac S4 hc34 ?_
    iterate 2 (refine Ys ?_; refine Pv ?_)
    refine Tp 60 (fun h35' => ?_) (fun h35' => ?_)
    ·have h35 := of_decide_eq_true h35'
     iterate 3 (refine Ys ?_; refine Pv ?_)
     iterate 2 refine Pv ?_
     refine Tp 65 (fun h36' => ?_) (fun h36' => ?_)
     ·have h36 := of_decide_eq_true h36'
      iterate 2 refine No ?_
      iterate 2 refine Pv ?_
      iterate 7 refine No ?_
      iterate 2 refine Pv ?_
      iterate 8 refine No ?_
      refine Pv (T_nil ?_)
      refine W_cond_true rfl (Wr ?_)
      iterate 3 refine Pv ?_
      refine T_nil (W_ret ?_)
      refine ⟨_, ⟨_, _, rfl, rfl, ⟨_, _, rfl, rfl, ⟨_, _, rfl, rfl, rfl⟩⟩⟩, ?_⟩
      exact tn_none (told_no HT (by omega)) S4.below
     have h36 := of_decide_eq_false h36'
     iterate 2 (refine Ys ?_; refine Pv ?_)
     iterate 2 refine Pv ?_
     refine Tp 69 (fun h37' => ?_) (fun h37' => ?_)
     ·have h37 := of_decide_eq_true h37'
      iterate 7 refine No ?_
      iterate 2 refine Pv ?_
      iterate 8 refine No ?_
      refine Pv (T_nil ?_)
      refine W_cond_true rfl (Wr ?_)
      iterate 3 refine Pv ?_
      refine T_nil (W_ret ?_)
      refine ⟨_, ⟨_, _, rfl, rfl, ⟨_, _, rfl, rfl, ⟨_, _, rfl, rfl, rfl⟩⟩⟩, ?_⟩
      exact tn_none (told_no HT (by omega)) S4.below
     have h37 := of_decide_eq_false h37'
     iterate 4 (refine Ys ?_; refine Pv ?_)
     iterate 2 (refine Ys ?_; refine Ar ?_)
     refine Ys ?_
     iterate 3 refine Pv ?_
     refine Tp 78 (fun h38' => ?_) (fun h38' => ?_)
     ·have h38 := of_decide_eq_true h38'
      iterate 8 refine No ?_
      refine Pv (T_nil ?_)
      refine W_cond_true rfl (Wr ?_)
      iterate 3 refine Pv ?_
      refine T_nil (W_ret ?_)
      refine ⟨_, ⟨_, _, rfl, rfl, ⟨_, _, rfl, rfl, ⟨_, _, rfl, rfl, rfl⟩⟩⟩, ?_⟩
      exact tn_none (told_no HT (by omega)) S4.below
     have h38 := of_decide_eq_false h38'
     iterate 2 (refine Ys ?_; refine Pv ?_)
     refine Ys ?_
     refine Ar ?_
     refine Ys ?_
     refine Pv ?_
     refine Ys ?_
     refine Ar ?_
     refine Ys ?_
     refine Ag ((k + 1) + n) (hv.mono hl2) fun b39 o40 hc41 => ?_
     have hc42 := hc41 0 (bV (b.getD ((k + 1) + n) 0)) (at_b b ((k + 1) + n) (by omega))
     simp only [Nat.add_zero] at hc42
     refine Ys ?_
     refine Ac S4 hc42 ?_
     refine Ys ?_
     iterate 2 refine Pv ?_
     refine T_nil (W_cond_not rfl (fun h43 => ?_) (fun h43 => ?_))
     ·refine Wr ?_
      iterate 3 refine Pv ?_
      refine T_nil (W_ret ?_)
      refine ⟨_, ⟨_, _, rfl, rfl, ⟨_, _, rfl, rfl, ⟨_, _, rfl, rfl, rfl⟩⟩⟩, ?_⟩
      exact tn_none (told_no HT (by omega)) S4.below
     refine W_skip (W_seq (W_draw rfl (by kernel_rfl) ?_))
     have S44 := S4.drew
     have HY := told_yes HT (by omega) (by omega) (by omega) (by omega) (by omega) (by omega)
     have HL1 := tn1_len HY.1
     have HL2 := tn2_len HY.1
     iterate 2 refine Pv ?_
     iterate 2 (refine Ar ?_; refine Pv ?_)
     refine Ar ?_
     refine T_sliceR (k + 1) ((k + 1) + n) (hv.mono hl2) rfl rfl rfl rfl rfl rfl rfl rfl rfl rfl (bound_of (by omega)) (bound_of (by omega)) (by omega) (by omega) fun a45 c46 hc47 r48 => ?_
     have r49 := Rd.cutB r48
     have r50 : Rd G1 (.slice a45 (((k + 1) + n) - (k + 1)) c46) (((k + 1) + n) - (k + 1)) 1 ((tn1 b).map bV) := by rw [told_cut1 HY] at r49; exact r49
     iterate 3 refine Pv ?_
     iterate 2 refine Ar ?_
     refine T_sliceR ((k + n) + 2) b.length (hv.mono hl2) rfl rfl rfl rfl rfl rfl rfl rfl rfl rfl (by first | rfl | exact congrArg some (by omega)) (bound_of (by omega)) (by omega) (by omega) fun a51 c52 hc53 r54 => ?_
     have r55 := Rd.cutB r54
     have r56 : Rd G1 (.slice a51 (b.length - ((k + n) + 2)) c52) (b.length - ((k + n) + 2)) 1 ((tn2 b).map bV) := by rw [told_cut2 HY] at r55; exact r55
     iterate 3 refine Pv ?_
     refine T_nil (W_ret ?_)
     refine ⟨_, ⟨_, _, rfl, rfl, ⟨_, _, rfl, rfl, ⟨_, _, rfl, rfl, rfl⟩⟩⟩, ?_⟩
     have q1 := HY.2.1
     have q2 := HY.2.2
     exact tn_some HY.1 (by omega) (by omega) ((r50).mono S44.fin) ((r56).mono S44.fin) S44.below
    have h35 := of_decide_eq_false h35'
    iterate 2 refine No ?_
    refine Ys ?_
    iterate 3 refine Pv ?_
    iterate 2 (refine Ys ?_; refine Pv ?_)
    iterate 2 refine Pv ?_
    refine Tp 69 (fun h57' => ?_) (fun h57' => ?_)
    ·have h57 := of_decide_eq_true h57'
     iterate 7 refine No ?_
     iterate 2 refine Pv ?_
     iterate 8 refine No ?_
     refine Pv (T_nil ?_)
     refine W_cond_true rfl (Wr ?_)
     iterate 3 refine Pv ?_
     refine T_nil (W_ret ?_)
     refine ⟨_, ⟨_, _, rfl, rfl, ⟨_, _, rfl, rfl, ⟨_, _, rfl, rfl, rfl⟩⟩⟩, ?_⟩
     exact tn_none (told_no HT (by omega)) S4.below
    have h57 := of_decide_eq_false h57'
    iterate 4 (refine Ys ?_; refine Pv ?_)
    iterate 2 (refine Ys ?_; refine Ar ?_)
    refine Ys ?_
    iterate 3 refine Pv ?_
    refine Tp 78 (fun h58' => ?_) (fun h58' => ?_)
    ·have h58 := of_decide_eq_true h58'
     iterate 8 refine No ?_
     refine Pv (T_nil ?_)
     refine W_cond_true rfl (Wr ?_)
     iterate 3 refine Pv ?_
     refine T_nil (W_ret ?_)
     refine ⟨_, ⟨_, _, rfl, rfl, ⟨_, _, rfl, rfl, ⟨_, _, rfl, rfl, rfl⟩⟩⟩, ?_⟩
     exact tn_none (told_no HT (by omega)) S4.below
    have h58 := of_decide_eq_false h58'
    iterate 2 (refine Ys ?_; refine Pv ?_)
    refine Ys ?_
    refine Ar ?_
    refine Ys ?_
    refine Pv ?_
    refine Ys ?_
    refine Ar ?_
    refine Ys ?_
    refine Ag ((k + 1) + n) (hv.mono hl2) fun b59 o60 hc61 => ?_
    have hc62 := hc61 0 (bV (b.getD ((k + 1) + n) 0)) (at_b b ((k + 1) + n) (by omega))
    simp only [Nat.add_zero] at hc62
    refine Ys ?_
    refine Ac S4 hc62 ?_
    refine Ys ?_
    iterate 2 refine Pv ?_
    refine T_nil (W_cond_not rfl (fun h63 => ?_) (fun h63 => ?_))
    ·refine Wr ?_
     iterate 3 refine Pv ?_
     refine T_nil (W_ret ?_)
     refine ⟨_, ⟨_, _, rfl, rfl, ⟨_, _, rfl, rfl, ⟨_, _, rfl, rfl, rfl⟩⟩⟩, ?_⟩
     exact tn_none (told_no HT (by omega)) S4.below
    refine W_skip (W_seq (W_draw rfl (by kernel_rfl) ?_))
    have S64 := S4.drew
    have HY := told_yes HT (by omega) (by omega) (by omega) (by omega) (by omega) (by omega)
    have HL1 := tn1_len HY.1
    have HL2 := tn2_len HY.1
    iterate 2 refine Pv ?_
    iterate 2 (refine Ar ?_; refine Pv ?_)
    refine Ar ?_
    refine T_sliceR (k + 1) ((k + 1) + n) (hv.mono hl2) rfl rfl rfl rfl rfl rfl rfl rfl rfl rfl (bound_of (by omega)) (bound_of (by omega)) (by omega) (by omega) fun a65 c66 hc67 r68 => ?_
    have r69 := Rd.cutB r68
    have r70 : Rd G1 (.slice a65 (((k + 1) + n) - (k + 1)) c66) (((k + 1) + n) - (k + 1)) 1 ((tn1 b).map bV) := by rw [told_cut1 HY] at r69; exact r69
    iterate 3 refine Pv ?_
    iterate 2 refine Ar ?_
    refine T_sliceR ((k + n) + 2) b.length (hv.mono hl2) rfl rfl rfl rfl rfl rfl rfl rfl rfl rfl (by first | rfl | exact congrArg some (by omega)) (bound_of (by omega)) (by omega) (by omega) fun a71 c72 hc73 r74 => ?_
    have r75 := Rd.cutB r74
    have r76 : Rd G1 (.slice a71 (b.length - ((k + n) + 2)) c72) (b.length - ((k + n) + 2)) 1 ((tn2 b).map bV) := by rw [told_cut2 HY] at r75; exact r75
    iterate 3 refine Pv ?_
    refine T_nil (W_ret ?_)
    refine ⟨_, ⟨_, _, rfl, rfl, ⟨_, _, rfl, rfl, ⟨_, _, rfl, rfl, rfl⟩⟩⟩, ?_⟩
    have q1 := HY.2.1
    have q2 := HY.2.2
    exact tn_some HY.1 (by omega) (by omega) ((r70).mono S64.fin) ((r76).mono S64.fin) S64.below
   have h18 := of_decide_eq_false h18'
   iterate 2 refine No ?_
   refine Pv (T_nil ?_)
   refine W_cond_false rfl (W_exit (W_seq (Wr ?_)))
   have HT := told_ref (b := b) (d := k) (by assumption) (by omega)
   generalize dval (b.take k) = n at *
   iterate 3 refine Pv ?_
   refine Tp 42 (fun h77' => ?_) (fun h77' => ?_)
   ·have h77 := of_decide_eq_true h77'
    iterate 4 refine No ?_
    iterate 2 refine Pv ?_
    iterate 5 refine No ?_
    iterate 2 refine Pv ?_
    iterate 5 refine No ?_
    iterate 2 refine T_un rfl rfl rfl rfl rfl ?_
    iterate 2 (refine No ?_; refine Pv ?_; refine Pv ?_; refine No ?_)
    iterate 6 refine No ?_
    iterate 2 refine Pv ?_
    iterate 8 refine No ?_
    refine Pv (T_nil ?_)
    refine W_cond_true rfl (Wr ?_)
    iterate 3 refine Pv ?_
    refine T_nil (W_ret ?_)
    refine ⟨_, ⟨_, _, rfl, rfl, ⟨_, _, rfl, rfl, ⟨_, _, rfl, rfl, rfl⟩⟩⟩, ?_⟩
    exact tn_none (told_no HT (by omega)) S4.below
   have h77 := of_decide_eq_false h77'
   iterate 4 (refine Ys ?_; refine Pv ?_)
   iterate 2 refine Pv ?_
   refine Tp 48 (fun h78' => ?_) (fun h78' => ?_)
   ·have h78 := of_decide_eq_true h78'
    iterate 5 refine No ?_
    iterate 2 refine Pv ?_
    iterate 5 refine No ?_
    iterate 2 refine T_un rfl rfl rfl rfl rfl ?_
    iterate 2 (refine No ?_; refine Pv ?_; refine Pv ?_; refine No ?_)
    iterate 6 refine No ?_
    iterate 2 refine Pv ?_
    iterate 8 refine No ?_
    refine Pv (T_nil ?_)
    refine W_cond_true rfl (Wr ?_)
    iterate 3 refine Pv ?_
    refine T_nil (W_ret ?_)
    refine ⟨_, ⟨_, _, rfl, rfl, ⟨_, _, rfl, rfl, ⟨_, _, rfl, rfl, rfl⟩⟩⟩, ?_⟩
    exact tn_none (told_no HT (by omega)) S4.below
   have h78 := of_decide_eq_false h78'
   iterate 2 (refine Ys ?_; refine Pv ?_)
   refine Ys ?_
   refine Ag k (hv.mono hl2) fun b79 o80 hc81 => ?_
   have hc82 := hc81 0 (bV (b.getD k 0)) (at_b b k (by omega))
   simp only [Nat.add_zero] at hc82
   refine Ys ?_
   refine Ac S4 hc82 ?_
   refine Ys ?_
   iterate 3 refine Pv ?_
   refine Tp 55 (fun h83' => ?_) (fun h83' => ?_)
   ·have h83 := of_ndec_t h83'
    iterate 5 refine No ?_
    iterate 2 refine T_un rfl rfl rfl rfl rfl ?_
    iterate 2 (refine No ?_; refine Pv ?_; refine Pv ?_; refine No ?_)
    iterate 6 refine No ?_
    iterate 2 refine Pv ?_
    iterate 8 refine No ?_
    refine Pv (T_nil ?_)
    refine W_cond_true rfl (Wr ?_)
    iterate 3 refine Pv ?_
    refine T_nil (W_ret ?_)
    refine ⟨_, ⟨_, _, rfl, rfl, ⟨_, _, rfl, rfl, ⟨_, _, rfl, rfl, rfl⟩⟩⟩, ?_⟩
    exact tn_none (told_no HT (by omega)) S4.below
   have h83 := of_ndec_f h83'
   refine Ys ?_
   refine Pv ?_
   refine Ys ?_
   refine Ag 0 (hv.mono hl2) fun b84 o85 hc86 => ?_
   have hc87 := hc86 0 (bV (b.getD 0 0)) (at_b b 0 (by omega))
   simp only [Nat.add_zero] at hc87
   refine Ys ?_
   refine Ac S4 hc87 ?_
   iterate 2 (refine Ys ?_; refine Pv ?_)
   refine Tp 60 (fun h88' => ?_) (fun h88' => ?_)
   ·have h88 := of_decide_eq_true h88'
    iterate 3 (refine Ys ?_; refine Pv ?_)
    iterate 2 refine Pv ?_
    refine Tp 65 (fun h89' => ?_) (fun h89' => ?_)
    ·have h89 := of_decide_eq_true h89'
     iterate 2 refine No ?_
     iterate 2 refine Pv ?_
     iterate 7 refine No ?_
     iterate 2 refine Pv ?_
     iterate 8 refine No ?_
     refine Pv (T_nil ?_)
     refine W_cond_true rfl (Wr ?_)
     iterate 3 refine Pv ?_
     refine T_nil (W_ret ?_)
     refine ⟨_, ⟨_, _, rfl, rfl, ⟨_, _, rfl, rfl, ⟨_, _, rfl, rfl, rfl⟩⟩⟩, ?_⟩
     exact tn_none (told_no HT (by omega)) S4.below
    have h89 := of_decide_eq_false h89'
    iterate 2 (refine Ys ?_; refine Pv ?_)
    iterate 2 refine Pv ?_
    refine Tp 69 (fun h90' => ?_) (fun h90' => ?_)
    ·have h90 := of_decide_eq_true h90'
     iterate 7 refine No ?_
     iterate 2 refine Pv ?_
     iterate 8 refine No ?_
     refine Pv (T_nil ?_)
     refine W_cond_true rfl (Wr ?_)
     iterate 3 refine Pv ?_
     refine T_nil (W_ret ?_)
     refine ⟨_, ⟨_, _, rfl, rfl, ⟨_, _, rfl, rfl, ⟨_, _, rfl, rfl, rfl⟩⟩⟩, ?_⟩
     exact tn_none (told_no HT (by omega)) S4.below
    have h90 := of_decide_eq_false h90'
    iterate 4 (refine Ys ?_; refine Pv ?_)
    iterate 2 (refine Ys ?_; refine Ar ?_)
    refine Ys ?_
    iterate 3 refine Pv ?_
    refine Tp 78 (fun h91' => ?_) (fun h91' => ?_)
    ·have h91 := of_decide_eq_true h91'
     iterate 8 refine No ?_
     refine Pv (T_nil ?_)
     refine W_cond_true rfl (Wr ?_)
     iterate 3 refine Pv ?_
     refine T_nil (W_ret ?_)
     refine ⟨_, ⟨_, _, rfl, rfl, ⟨_, _, rfl, rfl, ⟨_, _, rfl, rfl, rfl⟩⟩⟩, ?_⟩
     exact tn_none (told_no HT (by omega)) S4.below
    have h91 := of_decide_eq_false h91'
    iterate 2 (refine Ys ?_; refine Pv ?_)
    refine Ys ?_
    refine Ar ?_
    refine Ys ?_
    refine Pv ?_
    refine Ys ?_
    refine Ar ?_
    refine Ys ?_
    refine Ag ((k + 1) + n) (hv.mono hl2) fun b92 o93 hc94 => ?_
    have hc95 := hc94 0 (bV (b.getD ((k + 1) + n) 0)) (at_b b ((k + 1) + n) (by omega))
    simp only [Nat.add_zero] at hc95
    refine Ys ?_
    refine Ac S4 hc95 ?_
    refine Ys ?_
    iterate 2 refine Pv ?_
    refine T_nil (W_cond_not rfl (fun h96 => ?_) (fun h96 => ?_))
    ·refine Wr ?_
     iterate 3 refine Pv ?_
     refine T_nil (W_ret ?_)
     refine ⟨_, ⟨_, _, rfl, rfl, ⟨_, _, rfl, rfl, ⟨_, _, rfl, rfl, rfl⟩⟩⟩, ?_⟩
     exact tn_none (told_no HT (by omega)) S4.below
    refine W_skip (W_seq (W_draw rfl (by kernel_rfl) ?_))
    have S97 := S4.drew
    have HY := told_yes HT (by omega) (by omega) (by omega) (by omega) (by omega) (by omega)
    have HL1 := tn1_len HY.1
    have HL2 := tn2_len HY.1
    iterate 2 refine Pv ?_
    iterate 2 (refine Ar ?_; refine Pv ?_)
    refine Ar ?_
    refine T_sliceR (k + 1) ((k + 1) + n) (hv.mono hl2) rfl rfl rfl rfl rfl rfl rfl rfl rfl rfl (bound_of (by omega)) (bound_of (by omega)) (by omega) (by omega) fun a98 c99 hc100 r101 => ?_
    have r102 := Rd.cutB r101
    have r103 : Rd G1 (.slice a98 (((k + 1) + n) - (k + 1)) c99) (((k + 1) + n) - (k + 1)) 1 ((tn1 b).map bV) := by rw [told_cut1 HY] at r102; exact r102
    iterate 3 refine Pv ?_
    iterate 2 refine Ar ?_
    refine T_sliceR ((k + n) + 2) b.length (hv.mono hl2) rfl rfl rfl rfl rfl rfl rfl rfl rfl rfl (by first | rfl | exact congrArg some (by omega)) (bound_of (by omega)) (by omega) (by omega) fun a104 c105 hc106 r107 => ?_
    have r108 := Rd.cutB r107
    have r109 : Rd G1 (.slice a104 (b.length - ((k + n) + 2)) c105) (b.length - ((k + n) + 2)) 1 ((tn2 b).map bV) := by rw [told_cut2 HY] at r108; exact r108
    iterate 3 refine Pv ?_
    refine T_nil (W_ret ?_)
    refine ⟨_, ⟨_, _, rfl, rfl, ⟨_, _, rfl, rfl, ⟨_, _, rfl, rfl, rfl⟩⟩⟩, ?_⟩
    have q1 := HY.2.1
    have q2 := HY.2.2
    exact tn_some HY.1 (by omega) (by omega) ((r103).mono S97.fin) ((r109).mono S97.fin) S97.below
   have h88 := of_decide_eq_false h88'
   iterate 2 refine No ?_
   refine Ys ?_
   iterate 3 refine Pv ?_
   iterate 2 (refine Ys ?_; refine Pv ?_)
   iterate 2 refine Pv ?_
   refine Tp 69 (fun h110' => ?_) (fun h110' => ?_)
   ·have h110 := of_decide_eq_true h110'
    iterate 7 refine No ?_
    iterate 2 refine Pv ?_
    iterate 8 refine No ?_
    refine Pv (T_nil ?_)
    refine W_cond_true rfl (Wr ?_)
    iterate 3 refine Pv ?_
    refine T_nil (W_ret ?_)
    refine ⟨_, ⟨_, _, rfl, rfl, ⟨_, _, rfl, rfl, ⟨_, _, rfl, rfl, rfl⟩⟩⟩, ?_⟩
    exact tn_none (told_no HT (by omega)) S4.below
   have h110 := of_decide_eq_false h110'
   iterate 4 (refine Ys ?_; refine Pv ?_)
   iterate 2 (refine Ys ?_; refine Ar ?_)
   refine Ys ?_
   iterate 3 refine Pv ?_
   refine Tp 78 (fun h111' => ?_) (fun h111' => ?_)
   ·have h111 := of_decide_eq_true h111'
    iterate 8 refine No ?_
    refine Pv (T_nil ?_)
    refine W_cond_true rfl (Wr ?_)
    iterate 3 refine Pv ?_
    refine T_nil (W_ret ?_)
    refine ⟨_, ⟨_, _, rfl, rfl, ⟨_, _, rfl, rfl, ⟨_, _, rfl, rfl, rfl⟩⟩⟩, ?_⟩
    exact tn_none (told_no HT (by omega)) S4.below
   have h111 := of_decide_eq_false h111'
   iterate 2 (refine Ys ?_; refine Pv ?_)
   refine Ys ?_
   refine Ar ?_
   refine Ys ?_
   refine Pv ?_
   refine Ys ?_
   refine Ar ?_
   refine Ys ?_
   refine Ag ((k + 1) + n) (hv.mono hl2) fun b112 o113 hc114 => ?_
   have hc115 := hc114 0 (bV (b.getD ((k + 1) + n) 0)) (at_b b ((k + 1) + n) (by omega))
   simp only [Nat.add_zero] at hc115
   refine Ys ?_
   refine Ac S4 hc115 ?_
   refine Ys ?_
   iterate 2 refine Pv ?_
   refine T_nil (W_cond_not rfl (fun h116 => ?_) (fun h116 => ?_))
   ·refine Wr ?_
    iterate 3 refine Pv ?_
    refine T_nil (W_ret ?_)
    refine ⟨_, ⟨_, _, rfl, rfl, ⟨_, _, rfl, rfl, ⟨_, _, rfl, rfl, rfl⟩⟩⟩, ?_⟩
    exact tn_none (told_no HT (by omega)) S4.below
   refine W_skip (W_seq (W_draw rfl (by kernel_rfl) ?_))
   have S117 := S4.drew
   have HY := told_yes HT (by omega) (by omega) (by omega) (by omega) (by omega) (by omega)
   have HL1 := tn1_len HY.1
   have HL2 := tn2_len HY.1
   iterate 2 refine Pv ?_
   iterate 2 (refine Ar ?_; refine Pv ?_)
   refine Ar ?_
   refine T_sliceR (k + 1) ((k + 1) + n) (hv.mono hl2) rfl rfl rfl rfl rfl rfl rfl rfl rfl rfl (bound_of (by omega)) (bound_of (by omega)) (by omega) (by omega) fun a118 c119 hc120 r121 => ?_
   have r122 := Rd.cutB r121
   have r123 : Rd G1 (.slice a118 (((k + 1) + n) - (k + 1)) c119) (((k + 1) + n) - (k + 1)) 1 ((tn1 b).map bV) := by rw [told_cut1 HY] at r122; exact r122
   iterate 3 refine Pv ?_
   iterate 2 refine Ar ?_
   refine T_sliceR ((k + n) + 2) b.length (hv.mono hl2) rfl rfl rfl rfl rfl rfl rfl rfl rfl rfl (by first | rfl | exact congrArg some (by omega)) (bound_of (by omega)) (by omega) (by omega) fun a124 c125 hc126 r127 => ?_
   have r128 := Rd.cutB r127
   have r129 : Rd G1 (.slice a124 (b.length - ((k + n) + 2)) c125) (b.length - ((k + n) + 2)) 1 ((tn2 b).map bV) := by rw [told_cut2 HY] at r128; exact r128
   iterate 3 refine Pv ?_
   refine T_nil (W_ret ?_)
   refine ⟨_, ⟨_, _, rfl, rfl, ⟨_, _, rfl, rfl, ⟨_, _, rfl, rfl, rfl⟩⟩⟩, ?_⟩
   have q1 := HY.2.1
   have q2 := HY.2.2
   exact tn_some HY.1 (by omega) (by omega) ((r123).mono S117.fin) ((r129).mono S117.fin) S117.below
  have h13 := of_decide_eq_false h13'
  iterate 5 refine No ?_
  iterate 2 refine Pv ?_
  iterate 2 refine No ?_
  refine Pv (T_nil ?_)
  refine W_cond_false rfl (W_exit (W_seq (Wr ?_)))
  have HT := told_ref (b := b) (d := k) (by assumption) (by omega)
  generalize dval (b.take k) = n at *
  iterate 3 refine Pv ?_
  refine Tp 42 (fun h130' => ?_) (fun h130' => ?_)
  ·have h130 := of_decide_eq_true h130'
   iterate 4 refine No ?_
   iterate 2 refine Pv ?_
   iterate 5 refine No ?_
   iterate 2 refine Pv ?_
   iterate 5 refine No ?_
   iterate 2 refine T_un rfl rfl rfl rfl rfl ?_
   iterate 2 (refine No ?_; refine Pv ?_; refine Pv ?_; refine No ?_)
   iterate 6 refine No ?_
   iterate 2 refine Pv ?_
   iterate 8 refine No ?_
   refine Pv (T_nil ?_)
   refine W_cond_true rfl (Wr ?_)
   iterate 3 refine Pv ?_
   refine T_nil (W_ret ?_)
   refine ⟨_, ⟨_, _, rfl, rfl, ⟨_, _, rfl, rfl, ⟨_, _, rfl, rfl, rfl⟩⟩⟩, ?_⟩
   exact tn_none (told_no HT (by omega)) S4.below
  have h130 := of_decide_eq_false h130'
  iterate 4 (refine Ys ?_; refine Pv ?_)
  iterate 2 refine Pv ?_
  refine Tp 48 (fun h131' => ?_) (fun h131' => ?_)
  ·have h131 := of_decide_eq_true h131'
   iterate 5 refine No ?_
   iterate 2 refine Pv ?_
   iterate 5 refine No ?_
   iterate 2 refine T_un rfl rfl rfl rfl rfl ?_
   iterate 2 (refine No ?_; refine Pv ?_; refine Pv ?_; refine No ?_)
   iterate 6 refine No ?_
   iterate 2 refine Pv ?_
   iterate 8 refine No ?_
   refine Pv (T_nil ?_)
   refine W_cond_true rfl (Wr ?_)
   iterate 3 refine Pv ?_
   refine T_nil (W_ret ?_)
   refine ⟨_, ⟨_, _, rfl, rfl, ⟨_, _, rfl, rfl, ⟨_, _, rfl, rfl, rfl⟩⟩⟩, ?_⟩
   exact tn_none (told_no HT (by omega)) S4.below
  have h131 := of_decide_eq_false h131'
  iterate 2 (refine Ys ?_; refine Pv ?_)
  refine Ys ?_
  refine Ag k (hv.mono hl2) fun b132 o133 hc134 => ?_
  have hc135 := hc134 0 (bV (b.getD k 0)) (at_b b k (by omega))
  simp only [Nat.add_zero] at hc135
  refine Ys ?_
  refine Ac S4 hc135 ?_
  refine Ys ?_
  iterate 3 refine Pv ?_
  refine Tp 55 (fun h136' => ?_) (fun h136' => ?_)
  ·have h136 := of_ndec_t h136'
   iterate 5 refine No ?_
   iterate 2 refine T_un rfl rfl rfl rfl rfl ?_
   iterate 2 (refine No ?_; refine Pv ?_; refine Pv ?_; refine No ?_)
   iterate 6 refine No ?_
   iterate 2 refine Pv ?_
   iterate 8 refine No ?_
   refine Pv (T_nil ?_)
   refine W_cond_true rfl (Wr ?_)
   iterate 3 refine Pv ?_
   refine T_nil (W_ret ?_)
   refine ⟨_, ⟨_, _, rfl, rfl, ⟨_, _, rfl, rfl, ⟨_, _, rfl, rfl, rfl⟩⟩⟩, ?_⟩
   exact tn_none (told_no HT (by omega)) S4.below
  have h136 := of_ndec_f h136'
  refine Ys ?_
  refine Pv ?_
  refine Ys ?_
  refine Ag 0 (hv.mono hl2) fun b137 o138 hc139 => ?_
  have hc140 := hc139 0 (bV (b.getD 0 0)) (at_b b 0 (by omega))
  simp only [Nat.add_zero] at hc140
  refine Ys ?_
  refine Ac S4 hc140 ?_
  iterate 2 (refine Ys ?_; refine Pv ?_)
  refine Tp 60 (fun h141' => ?_) (fun h141' => ?_)
  ·have h141 := of_decide_eq_true h141'
   iterate 3 (refine Ys ?_; refine Pv ?_)
   iterate 2 refine Pv ?_
   refine Tp 65 (fun h142' => ?_) (fun h142' => ?_)
   ·have h142 := of_decide_eq_true h142'
    iterate 2 refine No ?_
    iterate 2 refine Pv ?_
    iterate 7 refine No ?_
    iterate 2 refine Pv ?_
    iterate 8 refine No ?_
    refine Pv (T_nil ?_)
    refine W_cond_true rfl (Wr ?_)
    iterate 3 refine Pv ?_
    refine T_nil (W_ret ?_)
    refine ⟨_, ⟨_, _, rfl, rfl, ⟨_, _, rfl, rfl, ⟨_, _, rfl, rfl, rfl⟩⟩⟩, ?_⟩
    exact tn_none (told_no HT (by omega)) S4.below
   have h142 := of_decide_eq_false h142'
   iterate 2 (refine Ys ?_; refine Pv ?_)
   iterate 2 refine Pv ?_
   refine Tp 69 (fun h143' => ?_) (fun h143' => ?_)
   ·have h143 := of_decide_eq_true h143'
    iterate 7 refine No ?_
    iterate 2 refine Pv ?_
    iterate 8 refine No ?_
    refine Pv (T_nil ?_)
    refine W_cond_true rfl (Wr ?_)
    iterate 3 refine Pv ?_
    refine T_nil (W_ret ?_)
    refine ⟨_, ⟨_, _, rfl, rfl, ⟨_, _, rfl, rfl, ⟨_, _, rfl, rfl, rfl⟩⟩⟩, ?_⟩
    exact tn_none (told_no HT (by omega)) S4.below
   have h143 := of_decide_eq_false h143'
   iterate 4 (refine Ys ?_; refine Pv ?_)
   iterate 2 (refine Ys ?_; refine Ar ?_)
   refine Ys ?_
   iterate 3 refine Pv ?_
   refine Tp 78 (fun h144' => ?_) (fun h144' => ?_)
   ·have h144 := of_decide_eq_true h144'
    iterate 8 refine No ?_
    refine Pv (T_nil ?_)
    refine W_cond_true rfl (Wr ?_)
    iterate 3 refine Pv ?_
    refine T_nil (W_ret ?_)
    refine ⟨_, ⟨_, _, rfl, rfl, ⟨_, _, rfl, rfl, ⟨_, _, rfl, rfl, rfl⟩⟩⟩, ?_⟩
    exact tn_none (told_no HT (by omega)) S4.below
   have h144 := of_decide_eq_false h144'
   iterate 2 (refine Ys ?_; refine Pv ?_)
   refine Ys ?_
   refine Ar ?_
   refine Ys ?_
   refine Pv ?_
   refine Ys ?_
   refine Ar ?_
   refine Ys ?_
   refine Ag ((k + 1) + n) (hv.mono hl2) fun b145 o146 hc147 => ?_
   have hc148 := hc147 0 (bV (b.getD ((k + 1) + n) 0)) (at_b b ((k + 1) + n) (by omega))
   simp only [Nat.add_zero] at hc148
   refine Ys ?_
   refine Ac S4 hc148 ?_
   refine Ys ?_
   iterate 2 refine Pv ?_
   refine T_nil (W_cond_not rfl (fun h149 => ?_) (fun h149 => ?_))
   ·refine Wr ?_
    iterate 3 refine Pv ?_
    refine T_nil (W_ret ?_)
    refine ⟨_, ⟨_, _, rfl, rfl, ⟨_, _, rfl, rfl, ⟨_, _, rfl, rfl, rfl⟩⟩⟩, ?_⟩
    exact tn_none (told_no HT (by omega)) S4.below
   refine W_skip (W_seq (W_draw rfl (by kernel_rfl) ?_))
   have S150 := S4.drew
   have HY := told_yes HT (by omega) (by omega) (by omega) (by omega) (by omega) (by omega)
   have HL1 := tn1_len HY.1
   have HL2 := tn2_len HY.1
   iterate 2 refine Pv ?_
   iterate 2 (refine Ar ?_; refine Pv ?_)
   refine Ar ?_
   refine T_sliceR (k + 1) ((k + 1) + n) (hv.mono hl2) rfl rfl rfl rfl rfl rfl rfl rfl rfl rfl (bound_of (by omega)) (bound_of (by omega)) (by omega) (by omega) fun a151 c152 hc153 r154 => ?_
   have r155 := Rd.cutB r154
   have r156 : Rd G1 (.slice a151 (((k + 1) + n) - (k + 1)) c152) (((k + 1) + n) - (k + 1)) 1 ((tn1 b).map bV) := by rw [told_cut1 HY] at r155; exact r155
   iterate 3 refine Pv ?_
   iterate 2 refine Ar ?_
   refine T_sliceR ((k + n) + 2) b.length (hv.mono hl2) rfl rfl rfl rfl rfl rfl rfl rfl rfl rfl (by first | rfl | exact congrArg some (by omega)) (bound_of (by omega)) (by omega) (by omega) fun a157 c158 hc159 r160 => ?_
   have r161 := Rd.cutB r160
   have r162 : Rd G1 (.slice a157 (b.length - ((k + n) + 2)) c158) (b.length - ((k + n) + 2)) 1 ((tn2 b).map bV) := by rw [told_cut2 HY] at r161; exact r161
   iterate 3 refine Pv ?_
   refine T_nil (W_ret ?_)
   refine ⟨_, ⟨_, _, rfl, rfl, ⟨_, _, rfl, rfl, ⟨_, _, rfl, rfl, rfl⟩⟩⟩, ?_⟩
   have q1 := HY.2.1
   have q2 := HY.2.2
   exact tn_some HY.1 (by omega) (by omega) ((r156).mono S150.fin) ((r162).mono S150.fin) S150.below
  have h141 := of_decide_eq_false h141'
  iterate 2 refine No ?_
  refine Ys ?_
  iterate 3 refine Pv ?_
  iterate 2 (refine Ys ?_; refine Pv ?_)
  iterate 2 refine Pv ?_
  refine Tp 69 (fun h163' => ?_) (fun h163' => ?_)
  ·have h163 := of_decide_eq_true h163'
   iterate 7 refine No ?_
   iterate 2 refine Pv ?_
   iterate 8 refine No ?_
   refine Pv (T_nil ?_)
   refine W_cond_true rfl (Wr ?_)
   iterate 3 refine Pv ?_
   refine T_nil (W_ret ?_)
   refine ⟨_, ⟨_, _, rfl, rfl, ⟨_, _, rfl, rfl, ⟨_, _, rfl, rfl, rfl⟩⟩⟩, ?_⟩
   exact tn_none (told_no HT (by omega)) S4.below
  have h163 := of_decide_eq_false h163'
  iterate 4 (refine Ys ?_; refine Pv ?_)
  iterate 2 (refine Ys ?_; refine Ar ?_)
  refine Ys ?_
  iterate 3 refine Pv ?_
  refine Tp 78 (fun h164' => ?_) (fun h164' => ?_)
  ·have h164 := of_decide_eq_true h164'
   iterate 8 refine No ?_
   refine Pv (T_nil ?_)
   refine W_cond_true rfl (Wr ?_)
   iterate 3 refine Pv ?_
   refine T_nil (W_ret ?_)
   refine ⟨_, ⟨_, _, rfl, rfl, ⟨_, _, rfl, rfl, ⟨_, _, rfl, rfl, rfl⟩⟩⟩, ?_⟩
   exact tn_none (told_no HT (by omega)) S4.below
  have h164 := of_decide_eq_false h164'
  iterate 2 (refine Ys ?_; refine Pv ?_)
  refine Ys ?_
  refine Ar ?_
  refine Ys ?_
  refine Pv ?_
  refine Ys ?_
  refine Ar ?_
  refine Ys ?_
  refine Ag ((k + 1) + n) (hv.mono hl2) fun b165 o166 hc167 => ?_
  have hc168 := hc167 0 (bV (b.getD ((k + 1) + n) 0)) (at_b b ((k + 1) + n) (by omega))
  simp only [Nat.add_zero] at hc168
  refine Ys ?_
  refine Ac S4 hc168 ?_
  refine Ys ?_
  iterate 2 refine Pv ?_
  refine T_nil (W_cond_not rfl (fun h169 => ?_) (fun h169 => ?_))
  ·refine Wr ?_
   iterate 3 refine Pv ?_
   refine T_nil (W_ret ?_)
   refine ⟨_, ⟨_, _, rfl, rfl, ⟨_, _, rfl, rfl, ⟨_, _, rfl, rfl, rfl⟩⟩⟩, ?_⟩
   exact tn_none (told_no HT (by omega)) S4.below
  refine W_skip (W_seq (W_draw rfl (by kernel_rfl) ?_))
  have S170 := S4.drew
  have HY := told_yes HT (by omega) (by omega) (by omega) (by omega) (by omega) (by omega)
  have HL1 := tn1_len HY.1
  have HL2 := tn2_len HY.1
  iterate 2 refine Pv ?_
  iterate 2 (refine Ar ?_; refine Pv ?_)
  refine Ar ?_
  refine T_sliceR (k + 1) ((k + 1) + n) (hv.mono hl2) rfl rfl rfl rfl rfl rfl rfl rfl rfl rfl (bound_of (by omega)) (bound_of (by omega)) (by omega) (by omega) fun a171 c172 hc173 r174 => ?_
  have r175 := Rd.cutB r174
  have r176 : Rd G1 (.slice a171 (((k + 1) + n) - (k + 1)) c172) (((k + 1) + n) - (k + 1)) 1 ((tn1 b).map bV) := by rw [told_cut1 HY] at r175; exact r175
  iterate 3 refine Pv ?_
  iterate 2 refine Ar ?_
  refine T_sliceR ((k + n) + 2) b.length (hv.mono hl2) rfl rfl rfl rfl rfl rfl rfl rfl rfl rfl (by first | rfl | exact congrArg some (by omega)) (bound_of (by omega)) (by omega) (by omega) fun a177 c178 hc179 r180 => ?_
  have r181 := Rd.cutB r180
  have r182 : Rd G1 (.slice a177 (b.length - ((k + n) + 2)) c178) (b.length - ((k + n) + 2)) 1 ((tn2 b).map bV) := by rw [told_cut2 HY] at r181; exact r181
  iterate 3 refine Pv ?_
  refine T_nil (W_ret ?_)
  refine ⟨_, ⟨_, _, rfl, rfl, ⟨_, _, rfl, rfl, ⟨_, _, rfl, rfl, rfl⟩⟩⟩, ?_⟩
  have q1 := HY.2.1
  have q2 := HY.2.2
  exact tn_some HY.1 (by omega) (by omega) ((r176).mono S170.fin) ((r182).mono S170.fin) S170.below
 have h8 := of_decide_eq_false h8'
 iterate 5 refine No ?_
 iterate 2 refine Pv ?_
 iterate 5 refine No ?_
 iterate 2 refine Pv ?_
 iterate 2 refine No ?_
 refine Pv (T_nil ?_)
 refine W_cond_false rfl (W_exit (W_seq (Wr ?_)))
 have HT := told_ref (b := b) (d := k) (by assumption) (by omega)
 generalize dval (b.take k) = n at *
 iterate 3 refine Pv ?_
 refine Tp 42 (fun h183' => ?_) (fun h183' => ?_)
 ·have h183 := of_decide_eq_true h183'
  iterate 4 refine No ?_
  iterate 2 refine Pv ?_
  iterate 5 refine No ?_
  iterate 2 refine Pv ?_
  iterate 5 refine No ?_
  iterate 2 refine T_un rfl rfl rfl rfl rfl ?_
  iterate 2 (refine No ?_; refine Pv ?_; refine Pv ?_; refine No ?_)
  iterate 6 refine No ?_
  iterate 2 refine Pv ?_
  iterate 8 refine No ?_
  refine Pv (T_nil ?_)
  refine W_cond_true rfl (Wr ?_)
  iterate 3 refine Pv ?_
  refine T_nil (W_ret ?_)
  refine ⟨_, ⟨_, _, rfl, rfl, ⟨_, _, rfl, rfl, ⟨_, _, rfl, rfl, rfl⟩⟩⟩, ?_⟩
  exact tn_none (told_no HT (by omega)) S4.below
 have h183 := of_decide_eq_false h183'
 iterate 4 (refine Ys ?_; refine Pv ?_)
 iterate 2 refine Pv ?_
 refine Tp 48 (fun h184' => ?_) (fun h184' => ?_)
 ·have h184 := of_decide_eq_true h184'
  iterate 5 refine No ?_
  iterate 2 refine Pv ?_
  iterate 5 refine No ?_
  iterate 2 refine T_un rfl rfl rfl rfl rfl ?_
  iterate 2 (refine No ?_; refine Pv ?_; refine Pv ?_; refine No ?_)
  iterate 6 refine No ?_
  iterate 2 refine Pv ?_
  iterate 8 refine No ?_
  refine Pv (T_nil ?_)
  refine W_cond_true rfl (Wr ?_)
  iterate 3 refine Pv ?_
  refine T_nil (W_ret ?_)
  refine ⟨_, ⟨_, _, rfl, rfl, ⟨_, _, rfl, rfl, ⟨_, _, rfl, rfl, rfl⟩⟩⟩, ?_⟩
  exact tn_none (told_no HT (by omega)) S4.below
 have h184 := of_decide_eq_false h184'
 iterate 2 (refine Ys ?_; refine Pv ?_)
 refine Ys ?_
 refine Ag k (hv.mono hl2) fun b185 o186 hc187 => ?_
 have hc188 := hc187 0 (bV (b.getD k 0)) (at_b b k (by omega))
 simp only [Nat.add_zero] at hc188
 refine Ys ?_
 refine Ac S4 hc188 ?_
 refine Ys ?_
 iterate 3 refine Pv ?_
 refine Tp 55 (fun h189' => ?_) (fun h189' => ?_)
 ·have h189 := of_ndec_t h189'
  iterate 5 refine No ?_
  iterate 2 refine T_un rfl rfl rfl rfl rfl ?_
  iterate 2 (refine No ?_; refine Pv ?_; refine Pv ?_; refine No ?_)
  iterate 6 refine No ?_
  iterate 2 refine Pv ?_
  iterate 8 refine No ?_
  refine Pv (T_nil ?_)
  refine W_cond_true rfl (Wr ?_)
  iterate 3 refine Pv ?_
  refine T_nil (W_ret ?_)
  refine ⟨_, ⟨_, _, rfl, rfl, ⟨_, _, rfl, rfl, ⟨_, _, rfl, rfl, rfl⟩⟩⟩, ?_⟩
  exact tn_none (told_no HT (by omega)) S4.below
 have h189 := of_ndec_f h189'
 refine Ys ?_
 refine Pv ?_
 refine Ys ?_
 refine Ag 0 (hv.mono hl2) fun b190 o191 hc192 => ?_
 have hc193 := hc192 0 (bV (b.getD 0 0)) (at_b b 0 (by omega))
 simp only [Nat.add_zero] at hc193
 refine Ys ?_
 refine Ac S4 hc193 ?_
 iterate 2 (refine Ys ?_; refine Pv ?_)
 refine Tp 60 (fun h194' => ?_) (fun h194' => ?_)
 ·have h194 := of_decide_eq_true h194'
  iterate 3 (refine Ys ?_; refine Pv ?_)
  iterate 2 refine Pv ?_
  refine Tp 65 (fun h195' => ?_) (fun h195' => ?_)
  ·have h195 := of_decide_eq_true h195'
   iterate 2 refine No ?_
   iterate 2 refine Pv ?_
   iterate 7 refine No ?_
   iterate 2 refine Pv ?_
   iterate 8 refine No ?_
   refine Pv (T_nil ?_)
   refine W_cond_true rfl (Wr ?_)
   iterate 3 refine Pv ?_
   refine T_nil (W_ret ?_)
   refine ⟨_, ⟨_, _, rfl, rfl, ⟨_, _, rfl, rfl, ⟨_, _, rfl, rfl, rfl⟩⟩⟩, ?_⟩
   exact tn_none (told_no HT (by omega)) S4.below
  have h195 := of_decide_eq_false h195'
  iterate 2 (refine Ys ?_; refine Pv ?_)
  iterate 2 refine Pv ?_
  refine Tp 69 (fun h196' => ?_) (fun h196' => ?_)
  ·have h196 := of_decide_eq_true h196'
   iterate 7 refine No ?_
   iterate 2 refine Pv ?_
   iterate 8 refine No ?_
   refine Pv (T_nil ?_)
   refine W_cond_true rfl (Wr ?_)
   iterate 3 refine Pv ?_
   refine T_nil (W_ret ?_)
   refine ⟨_, ⟨_, _, rfl, rfl, ⟨_, _, rfl, rfl, ⟨_, _, rfl, rfl, rfl⟩⟩⟩, ?_⟩
   exact tn_none (told_no HT (by omega)) S4.below
  have h196 := of_decide_eq_false h196'
  iterate 4 (refine Ys ?_; refine Pv ?_)
  iterate 2 (refine Ys ?_; refine Ar ?_)
  refine Ys ?_
  iterate 3 refine Pv ?_
  refine Tp 78 (fun h197' => ?_) (fun h197' => ?_)
  ·have h197 := of_decide_eq_true h197'
   iterate 8 refine No ?_
   refine Pv (T_nil ?_)
   refine W_cond_true rfl (Wr ?_)
   iterate 3 refine Pv ?_
   refine T_nil (W_ret ?_)
   refine ⟨_, ⟨_, _, rfl, rfl, ⟨_, _, rfl, rfl, ⟨_, _, rfl, rfl, rfl⟩⟩⟩, ?_⟩
   exact tn_none (told_no HT (by omega)) S4.below
  have h197 := of_decide_eq_false h197'
  iterate 2 (refine Ys ?_; refine Pv ?_)
  refine Ys ?_
  refine Ar ?_
  refine Ys ?_
  refine Pv ?_
  refine Ys ?_
  refine Ar ?_
  refine Ys ?_
  refine Ag ((k + 1) + n) (hv.mono hl2) fun b198 o199 hc200 => ?_
  have hc201 := hc200 0 (bV (b.getD ((k + 1) + n) 0)) (at_b b ((k + 1) + n) (by omega))
  simp only [Nat.add_zero] at hc201
  refine Ys ?_
  refine Ac S4 hc201 ?_
  refine Ys ?_
  iterate 2 refine Pv ?_
  refine T_nil (W_cond_not rfl (fun h202 => ?_) (fun h202 => ?_))
  ·refine Wr ?_
   iterate 3 refine Pv ?_
   refine T_nil (W_ret ?_)
   refine ⟨_, ⟨_, _, rfl, rfl, ⟨_, _, rfl, rfl, ⟨_, _, rfl, rfl, rfl⟩⟩⟩, ?_⟩
   exact tn_none (told_no HT (by omega)) S4.below
  refine W_skip (W_seq (W_draw rfl (by kernel_rfl) ?_))
  have S203 := S4.drew
  have HY := told_yes HT (by omega) (by omega) (by omega) (by omega) (by omega) (by omega)
  have HL1 := tn1_len HY.1
  have HL2 := tn2_len HY.1
  iterate 2 refine Pv ?_
  iterate 2 (refine Ar ?_; refine Pv ?_)
  refine Ar ?_
  refine T_sliceR (k + 1) ((k + 1) + n) (hv.mono hl2) rfl rfl rfl rfl rfl rfl rfl rfl rfl rfl (bound_of (by omega)) (bound_of (by omega)) (by omega) (by omega) fun a204 c205 hc206 r207 => ?_
  have r208 := Rd.cutB r207
  have r209 : Rd G1 (.slice a204 (((k + 1) + n) - (k + 1)) c205) (((k + 1) + n) - (k + 1)) 1 ((tn1 b).map bV) := by rw [told_cut1 HY] at r208; exact r208
  iterate 3 refine Pv ?_
  iterate 2 refine Ar ?_
  refine T_sliceR ((k + n) + 2) b.length (hv.mono hl2) rfl rfl rfl rfl rfl rfl rfl rfl rfl rfl (by first | rfl | exact congrArg some (by omega)) (bound_of (by omega)) (by omega) (by omega) fun a210 c211 hc212 r213 => ?_
  have r214 := Rd.cutB r213
  have r215 : Rd G1 (.slice a210 (b.length - ((k + n) + 2)) c211) (b.length - ((k + n) + 2)) 1 ((tn2 b).map bV) := by rw [told_cut2 HY] at r214; exact r214
  iterate 3 refine Pv ?_
  refine T_nil (W_ret ?_)
  refine ⟨_, ⟨_, _, rfl, rfl, ⟨_, _, rfl, rfl, ⟨_, _, rfl, rfl, rfl⟩⟩⟩, ?_⟩
  have q1 := HY.2.1
  have q2 := HY.2.2
  exact tn_some HY.1 (by omega) (by omega) ((r209).mono S203.fin) ((r215).mono S203.fin) S203.below
 have h194 := of_decide_eq_false h194'
 iterate 2 refine No ?_
 refine Ys ?_
 iterate 3 refine Pv ?_
 iterate 2 (refine Ys ?_; refine Pv ?_)
 iterate 2 refine Pv ?_
 refine Tp 69 (fun h216' => ?_) (fun h216' => ?_)
 ·have h216 := of_decide_eq_true h216'
  iterate 7 refine No ?_
  iterate 2 refine Pv ?_
  iterate 8 refine No ?_
  refine Pv (T_nil ?_)
  refine W_cond_true rfl (Wr ?_)
  iterate 3 refine Pv ?_
  refine T_nil (W_ret ?_)
  refine ⟨_, ⟨_, _, rfl, rfl, ⟨_, _, rfl, rfl, ⟨_, _, rfl, rfl, rfl⟩⟩⟩, ?_⟩
  exact tn_none (told_no HT (by omega)) S4.below
 have h216 := of_decide_eq_false h216'
 iterate 4 (refine Ys ?_; refine Pv ?_)
 iterate 2 (refine Ys ?_; refine Ar ?_)
 refine Ys ?_
 iterate 3 refine Pv ?_
 refine Tp 78 (fun h217' => ?_) (fun h217' => ?_)
 ·have h217 := of_decide_eq_true h217'
  iterate 8 refine No ?_
  refine Pv (T_nil ?_)
  refine W_cond_true rfl (Wr ?_)
  iterate 3 refine Pv ?_
  refine T_nil (W_ret ?_)
  refine ⟨_, ⟨_, _, rfl, rfl, ⟨_, _, rfl, rfl, ⟨_, _, rfl, rfl, rfl⟩⟩⟩, ?_⟩
  exact tn_none (told_no HT (by omega)) S4.below
 have h217 := of_decide_eq_false h217'
 iterate 2 (refine Ys ?_; refine Pv ?_)
 refine Ys ?_
 refine Ar ?_
 refine Ys ?_
 refine Pv ?_
 refine Ys ?_
 refine Ar ?_
 refine Ys ?_
 refine Ag ((k + 1) + n) (hv.mono hl2) fun b218 o219 hc220 => ?_
 have hc221 := hc220 0 (bV (b.getD ((k + 1) + n) 0)) (at_b b ((k + 1) + n) (by omega))
 simp only [Nat.add_zero] at hc221
 refine Ys ?_
 refine Ac S4 hc221 ?_
 refine Ys ?_
 iterate 2 refine Pv ?_
 refine T_nil (W_cond_not rfl (fun h222 => ?_) (fun h222 => ?_))
 ·refine Wr ?_
  iterate 3 refine Pv ?_
  refine T_nil (W_ret ?_)
  refine ⟨_, ⟨_, _, rfl, rfl, ⟨_, _, rfl, rfl, ⟨_, _, rfl, rfl, rfl⟩⟩⟩, ?_⟩
  exact tn_none (told_no HT (by omega)) S4.below
 refine W_skip (W_seq (W_draw rfl (by kernel_rfl) ?_))
 have S223 := S4.drew
 have HY := told_yes HT (by omega) (by omega) (by omega) (by omega) (by omega) (by omega)
 have HL1 := tn1_len HY.1
 have HL2 := tn2_len HY.1
 iterate 2 refine Pv ?_
 iterate 2 (refine Ar ?_; refine Pv ?_)
 refine Ar ?_
 refine T_sliceR (k + 1) ((k + 1) + n) (hv.mono hl2) rfl rfl rfl rfl rfl rfl rfl rfl rfl rfl (bound_of (by omega)) (bound_of (by omega)) (by omega) (by omega) fun a224 c225 hc226 r227 => ?_
 have r228 := Rd.cutB r227
 have r229 : Rd G1 (.slice a224 (((k + 1) + n) - (k + 1)) c225) (((k + 1) + n) - (k + 1)) 1 ((tn1 b).map bV) := by rw [told_cut1 HY] at r228; exact r228
 iterate 3 refine Pv ?_
 iterate 2 refine Ar ?_
 refine T_sliceR ((k + n) + 2) b.length (hv.mono hl2) rfl rfl rfl rfl rfl rfl rfl rfl rfl rfl (by first | rfl | exact congrArg some (by omega)) (bound_of (by omega)) (by omega) (by omega) fun a230 c231 hc232 r233 => ?_
 have r234 := Rd.cutB r233
 have r235 : Rd G1 (.slice a230 (b.length - ((k + n) + 2)) c231) (b.length - ((k + n) + 2)) 1 ((tn2 b).map bV) := by rw [told_cut2 HY] at r234; exact r234
 iterate 3 refine Pv ?_
 refine T_nil (W_ret ?_)
 refine ⟨_, ⟨_, _, rfl, rfl, ⟨_, _, rfl, rfl, ⟨_, _, rfl, rfl, rfl⟩⟩⟩, ?_⟩
 have q1 := HY.2.1
 have q2 := HY.2.2
 exact tn_some HY.1 (by omega) (by omega) ((r229).mono S223.fin) ((r235).mono S223.fin) S223.below

end Go.Proofs.YtmjmjjkigblbgaaGreatDoor
