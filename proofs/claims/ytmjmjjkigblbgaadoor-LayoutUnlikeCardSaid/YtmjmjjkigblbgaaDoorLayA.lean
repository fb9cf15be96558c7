/- Rows out of any bytes. -/
import Derived.Test.YtmjmjjkigblbgaaDoorTab2
import Derived.Test.YtmjmjjkigblbgaaDoorAuDoor
import Derived.Test.YtmjmjjkigblbgaaDoorFDoor
set_option linter.unusedVariables false
set_option linter.unusedSimpArgs false
set_option maxRecDepth 8192

namespace Go.Proofs.YtmjmjjkigblbgaaDoor
open Go Go.F Go.RowKit
open Go.Au

theorem tn_none {H : Hp} {w w' : World} {b : List UInt8} (h : ¬ NetOk b) (hB : Below w.heap.size w w') :
  ∃ a c a' c', Ending.returned (.tuple #[.slice none 0 0, .slice none 0 0, .bool false]) = .returned (.tuple #[.slice a (tn1 b).length c, .slice a' (tn2 b).length c', .bool (decide (NetOk b))]) ∧
   Rd (F.ext H w.heap.size w') (.slice a (tn1 b).length c) (tn1 b).length 1 ((tn1 b).map bV) ∧ Rd (F.ext H w.heap.size w') (.slice a' (tn2 b).length c') (tn2 b).length 1 ((tn2 b).map bV) ∧ Below w.heap.size w w' := by
 rw [tn1_no h, tn2_no h, decide_eq_false h]
 exact ⟨none, 0, none, 0, rfl, Rd.nil _ _, Rd.nil _ _, hB⟩
theorem tn_some {H : Hp} {w w' : World} {b : List UInt8} (h : NetOk b) {a a' : Option Addr} {n1 n2 c c' : Nat} (e1 : n1 = (tn1 b).length) (e2 : n2 = (tn2 b).length)
  (r1 : Rd (F.ext H w.heap.size w') (.slice a n1 c) n1 1 ((tn1 b).map bV)) (r2 : Rd (F.ext H w.heap.size w') (.slice a' n2 c') n2 1 ((tn2 b).map bV)) (hB : Below w.heap.size w w') :
  ∃ a1 c1 a1' c1', Ending.returned (.tuple #[.slice a n1 c, .slice a' n2 c', .bool true]) = .returned (.tuple #[.slice a1 (tn1 b).length c1, .slice a1' (tn2 b).length c1', .bool (decide (NetOk b))]) ∧
   Rd (F.ext H w.heap.size w') (.slice a1 (tn1 b).length c1) (tn1 b).length 1 ((tn1 b).map bV) ∧ Rd (F.ext H w.heap.size w') (.slice a1' (tn2 b).length c1') (tn2 b).length 1 ((tn2 b).map bV) ∧ Below w.heap.size w w' := by
 subst e1; subst e2
 rw [decide_eq_true h]
 exact ⟨a, c, a', c', rfl, r1, r2, hB⟩
theorem size_ok {H : Hp} {w : World} (hH : H.le (hw w)) {b : List UInt8} {aa0 : Option Addr} {nn0 cc0 : Nat} (hv : Rd H (.slice aa0 nn0 cc0) nn0 1 (b.map bV)) (hb : b.length ≤ 1000000) :
  Calls Tryd.prog 93 #[.slice aa0 nn0 cc0] w fun e w' => ∃ d, e = .returned (.tuple #[.int .i64 ((dval (b.take d) : Nat) : Int), .int .i64 ((d : Nat) : Int)]) ∧ d ≤ (Go.Au.lead b).length ∧ d ≤ 1000000 ∧ Go.Au.Told b d (dval (b.take d)) ∧ Below w.heap.size w w' := by
 obtain rfl : nn0 = b.length := hv.lenB
 have hvcap : b.length ≤ cc0 := hv.capOf
 have hld := lead_le b
 have hd0 : dval (b.take 0) = 0 := rfl
 refine enter1 _ Tryd.func93 rfl Tryd.ntmps93 Tryd.results93 rfl ?_
 have S0 := St.start w hH
 refine Wr ?_
 iterate 2 refine Pv ?_
 refine T_nil (W_seq (W_block ?_))
 refine W_loop (fun M ρ w' => ∃ (k : Nat) (G1 : Hp), M = (Go.Au.lead b).length - k ∧ k ≤ (Go.Au.lead b).length ∧ dval (b.take k) ≤ 1000000 ∧ ρ = [(0, .slice aa0 b.length cc0), (2, .int .i64 ((dval (b.take k) : Nat) : Int)), (3, .int .i64 (k : Int))] ∧ H.le G1 ∧ St w H G1 [] w')
  ((Go.Au.lead b).length - 0) [(0, .slice aa0 b.length cc0), (2, .int .i64 ((dval (b.take 0) : Nat) : Int)), (3, .int .i64 ((0 : Nat) : Int))] ⟨rfl, ciI, ciI, trivial⟩ ⟨0, H, rfl, (by exact Nat.zero_le _), (by omega), rfl, Hp.le.refl _, S0⟩ ?_
 rintro M ρ w3 ⟨k, G1, rfl, hp5, hp6, rfl, hl2, S4⟩
 have hat := lead_at b k (by assumption)
 have hbl := (b.getD k 0).toNat_lt
 refine W_seq (Wr ?_)
 iterate 5 refine Pv ?_
 refine Tp 8 (fun h7' => ?_) (fun h7' => ?_)
 ·have h7 := of_decide_eq_true h7'
  iterate 2 (refine Ys ?_; refine Pv ?_)
  refine Ys ?_
  refine Ah k (hv.mono hl2) fun b8 o9 hc10 => ?_
  have hc11 := hc10 0 (bV (b.getD k 0)) (at_b b k (by omega))
  simp only [Nat.add_zero] at hc11
  refine Ys ?_
  refine Ac S4 hc11 ?_
  refine Ys ?_
  iterate 3 refine Pv ?_
  refine Tp 15 (fun h12' => ?_) (fun h12' => ?_)
  ·have h12 := of_decide_eq_true h12'
   iterate 2 (refine Ys ?_; refine Pv ?_)
   refine Ys ?_
   refine Ah k (hv.mono hl2) fun b13 o14 hc15 => ?_
   have hc16 := hc15 0 (bV (b.getD k 0)) (at_b b k (by omega))
   simp only [Nat.add_zero] at hc16
   refine Ys ?_
   refine Ac S4 hc16 ?_
   refine Ys ?_
   iterate 3 refine Pv ?_
   refine Tp 22 (fun h17' => ?_) (fun h17' => ?_)
   ·have h17 := of_decide_eq_true h17'
    iterate 2 (refine Ys ?_; refine Pv ?_)
    refine Pv (T_nil ?_)
    refine Aa (fun h18 => ?_) (fun h18 => ?_)
    ·refine W_skip (W_block (Wr ?_))
     have hdv := dval_take (l := b) (k := k) (by omega)
     refine Pv ?_
     refine Ar ?_
     iterate 2 refine Pv ?_
     refine Ah k (hv.mono hl2) fun b19 o20 hc21 => ?_
     have hc22 := hc21 0 (bV (b.getD k 0)) (at_b b k (by omega))
     simp only [Nat.add_zero] at hc22
     refine Ac S4 hc22 ?_
     refine Pv ?_
     refine T_re (v' := .int .u8 (((b.getD k 0).toNat - 48 : Nat) : Int)) (congrArg (Value.int .u8) (by rw [IntKind.wrap_u8]; omega)) ?_
     refine Pv ?_
     refine T_re (v' := .int .i64 (((b.getD k 0).toNat - 48 : Nat) : Int)) (congrArg (Value.int .i64) (by rw [wrap64_id (by omega) (by omega)])) ?_
     refine Ar ?_
     refine Pv (T_nil (W_region ?_))
     refine Pv ?_
     refine Ar ?_
     refine Pv (T_nil ?_)
     exact ⟨(Go.Au.lead b).length - (k + 1), [(0, .slice aa0 b.length cc0), (2, .int .i64 ((dval (b.take (k + 1)) : Nat) : Int)), (3, .int .i64 ((k + 1 : Nat) : Int))], by omega, ⟨rfl, ciI, ciI, trivial⟩, k + 1, G1, rfl, (by omega), (by omega), rfl, hl2, S4⟩
    refine W_exit (Wr ?_)
    iterate 4 refine Pv ?_
    refine T_nil (W_ret ?_)
    refine ⟨_, ⟨_, _, rfl, rfl, ⟨_, _, rfl, rfl, rfl⟩⟩, ?_⟩
    exact ⟨k, rfl, by assumption, by omega, told_size (by assumption) (by omega), S4.below⟩
   have h17 := of_decide_eq_false h17'
   iterate 2 refine No ?_
   refine Pv (T_nil ?_)
   refine W_cond_false rfl (W_exit (Wr ?_))
   iterate 4 refine Pv ?_
   refine T_nil (W_ret ?_)
   refine ⟨_, ⟨_, _, rfl, rfl, ⟨_, _, rfl, rfl, rfl⟩⟩, ?_⟩
   exact ⟨k, rfl, by assumption, by omega, told_size (by assumption) (by omega), S4.below⟩
  have h12 := of_decide_eq_false h12'
  iterate 5 refine No ?_
  iterate 2 refine Pv ?_
  iterate 2 refine No ?_
  refine Pv (T_nil ?_)
  refine W_cond_false rfl (W_exit (Wr ?_))
  iterate 4 refine Pv ?_
  refine T_nil (W_ret ?_)
  refine ⟨_, ⟨_, _, rfl, rfl, ⟨_, _, rfl, rfl, rfl⟩⟩, ?_⟩
  exact ⟨k, rfl, by assumption, by omega, told_size (by assumption) (by omega), S4.below⟩
 have h7 := of_decide_eq_false h7'
 iterate 5 refine No ?_
 iterate 2 refine Pv ?_
 iterate 5 refine No ?_
 iterate 2 refine Pv ?_
 iterate 2 refine No ?_
 refine Pv (T_nil ?_)
 refine W_cond_false rfl (W_exit (Wr ?_))
 iterate 4 refine Pv ?_
 refine T_nil (W_ret ?_)
 refine ⟨_, ⟨_, _, rfl, rfl, ⟨_, _, rfl, rfl, rfl⟩⟩, ?_⟩
 exact ⟨k, rfl, by assumption, by omega, told_size (by assumption) (by omega), S4.below⟩


theorem takeNet_ok {H : Hp} {w : World} (hH : H.le (hw w)) {b : List UInt8} {aa0 : Option Addr} {nn0 cc0 : Nat} (hv : Rd H (.slice aa0 nn0 cc0) nn0 1 (b.map bV)) (hb : b.length ≤ 1000000) :
  Calls Tryd.prog 74 #[.slice aa0 nn0 cc0] w fun e w' => ∃ a c a' c', e = .returned (.tuple #[.slice a (tn1 b).length c, .slice a' (tn2 b).length c', .bool (decide (NetOk b))]) ∧ Rd (F.ext H w.heap.size w') (.slice a (tn1 b).length c) (tn1 b).length 1 ((tn1 b).map bV) ∧ Rd (F.ext H w.heap.size w') (.slice a' (tn2 b).length c') (tn2 b).length 1 ((tn2 b).map bV) ∧ Below w.heap.size w w' := by
 obtain rfl : nn0 = b.length := hv.lenB
 have hvcap : b.length ≤ cc0 := hv.capOf
 refine enter1 _ Tryd.func74 rfl Tryd.ntmps74 Tryd.results74 rfl ?_
 have S0 := St.start w hH
 refine Wr ?_
 iterate 3 refine Pv ?_
 refine Nr (Pv ?_)
 refine Cs g_aumbry_code_size ((size_ok S0.le hv (by omega)).mono ?_)
 rintro e w6 ⟨d1, rfl, hd2, hd3, ht4, hB5⟩
 have S7 := S0.call hB5
 refine ⟨_, rfl, trivial, ?_⟩
 have hll := lead_le b
 generalize dval (b.take d1) = n8 at *
 iterate 5 refine Pv ?_
 refine T_nil (W_seq (W_block (Wr ?_)))
 iterate 3 refine Pv ?_
 refine Tp 15 (fun h9' => ?_) (fun h9' => ?_)
 ·have h9 := of_decide_eq_true h9'
  iterate 3 refine No ?_
  iterate 4 refine T_un rfl rfl rfl rfl rfl ?_
  refine No ?_
  iterate 2 refine Pv ?_
  iterate 2 refine No ?_
  iterate 2 refine Pv ?_
  refine T_nil (W_cond_true rfl (Wr ?_))
  iterate 3 refine Pv ?_
  refine T_nil (W_ret ?_)
  refine ⟨_, ⟨_, _, rfl, rfl, ⟨_, _, rfl, rfl, ⟨_, _, rfl, rfl, rfl⟩⟩⟩, ?_⟩
  exact tn_none (told_no ht4 (by omega)) S7.below
 have h9 := of_decide_eq_false h9'
 iterate 3 (refine Ys ?_; refine Pv ?_)
 refine Tp 18 (fun h10' => ?_) (fun h10' => ?_)
 ·have h10 := of_decide_eq_true h10'
  refine Ys ?_
  refine Pv ?_
  refine Ys ?_
  refine Ah 0 hv fun b11 o12 hc13 => ?_
  have hc14 := hc13 0 (bV (b.getD 0 0)) (at_b b 0 (by omega))
  simp only [Nat.add_zero] at hc14
  refine Ys ?_
  refine Ac S7 hc14 ?_
  iterate 2 (refine Ys ?_; refine Pv ?_)
  iterate 2 refine Pv ?_
  refine Tp 25 (fun h15' => ?_) (fun h15' => ?_)
  ·have h15 := of_decide_eq_true h15'
   iterate 2 refine No ?_
   iterate 2 refine Pv ?_
   refine T_nil (W_cond_true rfl (Wr ?_))
   iterate 3 refine Pv ?_
   refine T_nil (W_ret ?_)
   refine ⟨_, ⟨_, _, rfl, rfl, ⟨_, _, rfl, rfl, ⟨_, _, rfl, rfl, rfl⟩⟩⟩, ?_⟩
   exact tn_none (told_no ht4 (by omega)) S7.below
  have h15 := of_decide_eq_false h15'
  iterate 2 (refine Ys ?_; refine Pv ?_)
  iterate 2 refine Pv ?_
  refine T_nil (Aa (fun h16 => ?_) (fun h16 => ?_))
  ·refine Wr ?_
   iterate 3 refine Pv ?_
   refine T_nil (W_ret ?_)
   refine ⟨_, ⟨_, _, rfl, rfl, ⟨_, _, rfl, rfl, ⟨_, _, rfl, rfl, rfl⟩⟩⟩, ?_⟩
   exact tn_none (told_no ht4 (by omega)) S7.below
  refine Wr ?_
  iterate 4 refine Pv ?_
  iterate 2 refine Ar ?_
  iterate 2 refine Pv ?_
  refine Tp 37 (fun h17' => ?_) (fun h17' => ?_)
  ·have h17 := of_decide_eq_true h17'
   iterate 5 refine No ?_
   iterate 2 refine Pv ?_
   iterate 8 refine No ?_
   iterate 2 refine Pv ?_
   refine T_nil (W_cond_true rfl (Wr ?_))
   iterate 3 refine Pv ?_
   refine T_nil (W_ret ?_)
   refine ⟨_, ⟨_, _, rfl, rfl, ⟨_, _, rfl, rfl, ⟨_, _, rfl, rfl, rfl⟩⟩⟩, ?_⟩
   exact tn_none (told_no ht4 (by omega)) S7.below
  have h17 := of_decide_eq_false h17'
  iterate 2 (refine Ys ?_; refine Pv ?_)
  refine Ys ?_
  refine Ah d1 hv fun b18 o19 hc20 => ?_
  have hc21 := hc20 0 (bV (b.getD d1 0)) (at_b b d1 (by omega))
  simp only [Nat.add_zero] at hc21
  refine Ys ?_
  refine Ac S7 hc21 ?_
  refine Ys ?_
  iterate 3 refine Pv ?_
  refine Tp 44 (fun h22' => ?_) (fun h22' => ?_)
  ·have h22 := of_ndec_t h22'
   iterate 8 refine No ?_
   iterate 2 refine Pv ?_
   refine T_nil (W_cond_true rfl (Wr ?_))
   iterate 3 refine Pv ?_
   refine T_nil (W_ret ?_)
   refine ⟨_, ⟨_, _, rfl, rfl, ⟨_, _, rfl, rfl, ⟨_, _, rfl, rfl, rfl⟩⟩⟩, ?_⟩
   exact tn_none (told_no ht4 (by omega)) S7.below
  have h22 := of_ndec_f h22'
  iterate 2 (refine Ys ?_; refine Pv ?_)
  refine Ys ?_
  refine Ar ?_
  refine Ys ?_
  refine Pv ?_
  refine Ys ?_
  refine Ar ?_
  refine Ys ?_
  refine Ah ((d1 + 1) + n8) hv fun b23 o24 hc25 => ?_
  have hc26 := hc25 0 (bV (b.getD ((d1 + 1) + n8) 0)) (at_b b ((d1 + 1) + n8) (by omega))
  simp only [Nat.add_zero] at hc26
  refine Ys ?_
  refine Ac S7 hc26 ?_
  refine Ys ?_
  iterate 3 refine Pv ?_
  refine T_nil (W_cond_not rfl (fun h27 => ?_) (fun h27 => ?_))
  ·refine Wr ?_
   iterate 3 refine Pv ?_
   refine T_nil (W_ret ?_)
   refine ⟨_, ⟨_, _, rfl, rfl, ⟨_, _, rfl, rfl, ⟨_, _, rfl, rfl, rfl⟩⟩⟩, ?_⟩
   exact tn_none (told_no ht4 (by omega)) S7.below
  refine W_skip (Wr ?_)
  have HY := told_yes ht4 (by omega) (by omega) (by omega) (by omega) (by omega) (by omega)
  have HL1 := tn1_len HY.1
  have HL2 := tn2_len HY.1
  iterate 2 refine Pv ?_
  iterate 2 (refine Ar ?_; refine Pv ?_)
  refine Ar ?_
  refine T_sliceR (d1 + 1) ((d1 + 1) + n8) hv rfl rfl rfl rfl rfl rfl rfl rfl rfl rfl (bound_of (by omega)) (bound_of (by omega)) (by omega) (by omega) fun a28 c29 hc30 r31 => ?_
  have r32 := Rd.cutB r31
  have r33 : Rd H (.slice a28 (((d1 + 1) + n8) - (d1 + 1)) c29) (((d1 + 1) + n8) - (d1 + 1)) 1 ((tn1 b).map bV) := by rw [told_cut1 HY] at r32; exact r32
  have S34 := S7.nilRow 5 1
  refine Ag (h1 := by exact one_bV _) (hn' := by first | rfl | (simp; done) | (simp; omega) | omega) (hx' := by simp) (hbytes := by show _ * 1 ≤ _; omega) 0 ((tn1 b).length) ((tn1 b).map bV) S34 (r33.mono S34.le) fun a35 c36 w37 hc38 S39 => ?_
  refine Pv (Nr ?_)
  iterate 3 refine Pv ?_
  iterate 2 refine Ar ?_
  refine T_sliceR ((d1 + n8) + 2) b.length hv rfl rfl rfl rfl rfl rfl rfl rfl rfl rfl (by first | rfl | exact congrArg some (by omega)) (bound_of (by omega)) (by omega) (by omega) fun a40 c41 hc42 r43 => ?_
  have r44 := Rd.cutB r43
  have r45 : Rd H (.slice a40 (b.length - ((d1 + n8) + 2)) c41) (b.length - ((d1 + n8) + 2)) 1 ((tn2 b).map bV) := by rw [told_cut2 HY] at r44; exact r44
  have S46 := S39.nilRow 5 1
  refine Ag (h1 := by exact one_bV _) (hn' := by first | rfl | (simp; done) | (simp; omega) | omega) (hx' := by simp) (hbytes := by show _ * 1 ≤ _; omega) 0 ((tn2 b).length) ((tn2 b).map bV) S46 (r45.mono S46.le) fun a47 c48 w49 hc50 S51 => ?_
  refine Pv (Nr ?_)
  iterate 5 refine Pv ?_
  refine T_nil (W_ret ?_)
  refine ⟨_, ⟨_, _, rfl, rfl, ⟨_, _, rfl, rfl, ⟨_, _, rfl, rfl, rfl⟩⟩⟩, ?_⟩
  exact tn_some HY.1 rfl rfl (Rd.of_own_ext (S51.row 1 rfl)) (Rd.of_own_ext (S51.row 0 rfl)) S51.below
 have h10 := of_decide_eq_false h10'
 iterate 4 refine No ?_
 refine Ys ?_
 iterate 3 refine Pv ?_
 iterate 2 (refine Ys ?_; refine Pv ?_)
 iterate 2 refine Pv ?_
 refine T_nil (Aa (fun h52 => ?_) (fun h52 => ?_))
 ·refine Wr ?_
  iterate 3 refine Pv ?_
  refine T_nil (W_ret ?_)
  refine ⟨_, ⟨_, _, rfl, rfl, ⟨_, _, rfl, rfl, ⟨_, _, rfl, rfl, rfl⟩⟩⟩, ?_⟩
  exact tn_none (told_no ht4 (by omega)) S7.below
 refine Wr ?_
 iterate 4 refine Pv ?_
 iterate 2 refine Ar ?_
 iterate 2 refine Pv ?_
 refine Tp 37 (fun h53' => ?_) (fun h53' => ?_)
 ·have h53 := of_decide_eq_true h53'
  iterate 5 refine No ?_
  iterate 2 refine Pv ?_
  iterate 8 refine No ?_
  iterate 2 refine Pv ?_
  refine T_nil (W_cond_true rfl (Wr ?_))
  iterate 3 refine Pv ?_
  refine T_nil (W_ret ?_)
  refine ⟨_, ⟨_, _, rfl, rfl, ⟨_, _, rfl, rfl, ⟨_, _, rfl, rfl, rfl⟩⟩⟩, ?_⟩
  exact tn_none (told_no ht4 (by omega)) S7.below
 have h53 := of_decide_eq_false h53'
 iterate 2 (refine Ys ?_; refine Pv ?_)
 refine Ys ?_
 refine Ah d1 hv fun b54 o55 hc56 => ?_
 have hc57 := hc56 0 (bV (b.getD d1 0)) (at_b b d1 (by omega))
 simp only [Nat.add_zero] at hc57
 refine Ys ?_
 refine Ac S7 hc57 ?_
 refine Ys ?_
 iterate 3 refine Pv ?_
 refine Tp 44 (fun h58' => ?_) (fun h58' => ?_)
 ·have h58 := of_ndec_t h58'
  iterate 8 refine No ?_
  iterate 2 refine Pv ?_
  refine T_nil (W_cond_true rfl (Wr ?_))
  iterate 3 refine Pv ?_
  refine T_nil (W_ret ?_)
  refine ⟨_, ⟨_, _, rfl, rfl, ⟨_, _, rfl, rfl, ⟨_, _, rfl, rfl, rfl⟩⟩⟩, ?_⟩
  exact tn_none (told_no ht4 (by omega)) S7.below
 have h58 := of_ndec_f h58'
 iterate 2 (refine Ys ?_; refine Pv ?_)
 refine Ys ?_
 refine Ar ?_
 refine Ys ?_
 refine Pv ?_
 refine Ys ?_
 refine Ar ?_
 refine Ys ?_
 refine Ah ((d1 + 1) + n8) hv fun b59 o60 hc61 => ?_
 have hc62 := hc61 0 (bV (b.getD ((d1 + 1) + n8) 0)) (at_b b ((d1 + 1) + n8) (by omega))
 simp only [Nat.add_zero] at hc62
 refine Ys ?_
 refine Ac S7 hc62 ?_
 refine Ys ?_
 iterate 3 refine Pv ?_
 refine T_nil (W_cond_not rfl (fun h63 => ?_) (fun h63 => ?_))
 ·refine Wr ?_
  iterate 3 refine Pv ?_
  refine T_nil (W_ret ?_)
  refine ⟨_, ⟨_, _, rfl, rfl, ⟨_, _, rfl, rfl, ⟨_, _, rfl, rfl, rfl⟩⟩⟩, ?_⟩
  exact tn_none (told_no ht4 (by omega)) S7.below
 refine W_skip (Wr ?_)
 have HY := told_yes ht4 (by omega) (by omega) (by omega) (by omega) (by omega) (by omega)
 have HL1 := tn1_len HY.1
 have HL2 := tn2_len HY.1
 iterate 2 refine Pv ?_
 iterate 2 (refine Ar ?_; refine Pv ?_)
 refine Ar ?_
 refine T_sliceR (d1 + 1) ((d1 + 1) + n8) hv rfl rfl rfl rfl rfl rfl rfl rfl rfl rfl (bound_of (by omega)) (bound_of (by omega)) (by omega) (by omega) fun a64 c65 hc66 r67 => ?_
 have r68 := Rd.cutB r67
 have r69 : Rd H (.slice a64 (((d1 + 1) + n8) - (d1 + 1)) c65) (((d1 + 1) + n8) - (d1 + 1)) 1 ((tn1 b).map bV) := by rw [told_cut1 HY] at r68; exact r68
 have S70 := S7.nilRow 5 1
 refine Ag (h1 := by exact one_bV _) (hn' := by first | rfl | (simp; done) | (simp; omega) | omega) (hx' := by simp) (hbytes := by show _ * 1 ≤ _; omega) 0 ((tn1 b).length) ((tn1 b).map bV) S70 (r69.mono S70.le) fun a71 c72 w73 hc74 S75 => ?_
 refine Pv (Nr ?_)
 iterate 3 refine Pv ?_
 iterate 2 refine Ar ?_
 refine T_sliceR ((d1 + n8) + 2) b.length hv rfl rfl rfl rfl rfl rfl rfl rfl rfl rfl (by first | rfl | exact congrArg some (by omega)) (bound_of (by omega)) (by omega) (by omega) fun a76 c77 hc78 r79 => ?_
 have r80 := Rd.cutB r79
 have r81 : Rd H (.slice a76 (b.length - ((d1 + n8) + 2)) c77) (b.length - ((d1 + n8) + 2)) 1 ((tn2 b).map bV) := by rw [told_cut2 HY] at r80; exact r80
 have S82 := S75.nilRow 5 1
 refine Ag (h1 := by exact one_bV _) (hn' := by first | rfl | (simp; done) | (simp; omega) | omega) (hx' := by simp) (hbytes := by show _ * 1 ≤ _; omega) 0 ((tn2 b).length) ((tn2 b).map bV) S82 (r81.mono S82.le) fun a83 c84 w85 hc86 S87 => ?_
 refine Pv (Nr ?_)
 iterate 5 refine Pv ?_
 refine T_nil (W_ret ?_)
 refine ⟨_, ⟨_, _, rfl, rfl, ⟨_, _, rfl, rfl, ⟨_, _, rfl, rfl, rfl⟩⟩⟩, ?_⟩
 exact tn_some HY.1 rfl rfl (Rd.of_own_ext (S87.row 1 rfl)) (Rd.of_own_ext (S87.row 0 rfl)) S87.below


end Go.Proofs.YtmjmjjkigblbgaaDoor
