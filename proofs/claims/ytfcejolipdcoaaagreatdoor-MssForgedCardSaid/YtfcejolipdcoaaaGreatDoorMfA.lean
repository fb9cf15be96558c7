/- Walks of the program's functions. -/
import Derived.Test.YtfcejolipdcoaaaGreatDoorMssC
import Derived.Test.YtfcejolipdcoaaaGreatDoorTreeF
import Derived.Test.YtfcejolipdcoaaaGreatDoorFFg
set_option linter.unusedVariables false
set_option linter.unusedSimpArgs false
set_option maxRecDepth 8192
namespace Go.Proofs.YtfcejolipdcoaaaGreatDoor
open Go Go.F Go.RowKit
open Go.Au hiding steps

theorem isNone_no {H : Hp} {a : Option Addr} {n m c size : Nat} {xs : List Value} (h : Rd H (.slice a n c) m size xs) (h0 : 0 < m) : a.isNone = false := by
 obtain ⟨b, o, c', hv, _⟩ := h.get h0
 cases hv; rfl
theorem nilB_of {H : Hp} {a : Option Addr} {n m c : Nat} {l : List UInt8} (h : Rd H (.slice a n c) m 1 (l.map bV)) (ha : a.isNone = true) : l = [] := by
 obtain ⟨hl0, a', c', hv, _, h0, _⟩ := h
 cases hv
 have h1 := (h0 (by simpa using ha)).1
 rw [List.length_map] at hl0
 exact List.eq_nil_of_length_eq_zero (by omega)
theorem told_in {H : Hp} {w : World} (hH : H.le (hw w)) {L : List (List UInt8)} {aa0 : Option Addr} {nn0 cc0 : Nat} (hv : RdL H (.slice aa0 nn0 cc0) L) (i : Int) (hi : 0 ≤ i ∧ i < L.length) :
  Calls Tryz.prog 21 #[.slice aa0 nn0 cc0, .int .i64 i] w fun e w' => ∃ a c, (L.getD i.toNat []).length ≤ c ∧ e = .returned (.slice a (L.getD i.toNat []).length c) ∧ Rd H (.slice a (L.getD i.toNat []).length c) (L.getD i.toNat []).length 1 ((L.getD i.toNat []).map bV) ∧ Below w.heap.size w w' := by
 obtain rfl : nn0 = L.length := hv.len
 refine enter2 _ Tryz.func21 rfl Tryz.ntmps21 Tryz.results21 rfl ?_
 have S0 := St.start w hH
 refine Wr (Pv (T_nil (W_seq (Wr ?_))))
 refine P3 ?_
 refine T_bool 7 false rfl (decide_eq_false (by omega)) ?_
 iterate 4 (refine Ys ?_; refine Pv ?_)
 refine Pv (T_nil ?_)
 refine W_bool 12 false rfl (decide_eq_false (by omega)) ?_
 refine W_cond_false rfl (W_skip (Wr (P2 ?_)))
 obtain ⟨hs4, r5, r6⟩ := (id hv)
 refine Af i.toNat r5 fun b1 o2 hc3 => ?_
 obtain ⟨a9, c10, hc12, hv8, r11⟩ := r6.at i.toNat (by omega)
 have hc13 := hc3 0 (.slice a9 (L.getD i.toNat []).length c10) (by simpa using hv8)
 simp only [Nat.add_zero] at hc13
 refine Ab (r := by exact hc13) S0 ?_
 refine Pv (T_nil (W_ret ?_))
 refine ⟨_, ⟨_, _, rfl, rfl, rfl⟩, ?_⟩
 exact ⟨_, _, hc12, rfl, r11, S0.below⟩


theorem told_out {H : Hp} {w : World} (hH : H.le (hw w)) {L : List (List UInt8)} {aa0 : Option Addr} {nn0 cc0 : Nat} (hv : RdL H (.slice aa0 nn0 cc0) L) (i : Int) (hi : ¬ (0 ≤ i ∧ i < L.length)) :
  Calls Tryz.prog 21 #[.slice aa0 nn0 cc0, .int .i64 i] w fun e w' => e = .returned (.slice none 0 0) ∧ Below w.heap.size w w' := by
 obtain rfl : nn0 = L.length := hv.len
 refine enter2 _ Tryz.func21 rfl Tryz.ntmps21 Tryz.results21 rfl ?_
 have S0 := St.start w hH
 refine Wr (Pv (T_nil (W_seq (Wr ?_))))
 refine P3 ?_
 refine Td 7 (fun h1 => ?_) (fun h1 => ?_)
 ·iterate 4 refine No ?_
  refine Pv (T_nil ?_)
  refine W_cond_true rfl (Wr (Pv (T_nil (W_ret ?_))))
  refine ⟨_, ⟨_, _, rfl, rfl, rfl⟩, ?_⟩
  exact ⟨rfl, S0.below⟩
 iterate 4 (refine Ys ?_; refine Pv ?_)
 refine Pv (T_nil ?_)
 refine W_bool 12 true rfl (decide_eq_true (by omega)) ?_
 refine W_cond_true rfl (Wr (Pv (T_nil (W_ret ?_))))
 refine ⟨_, ⟨_, _, rfl, rfl, rfl⟩, ?_⟩
 exact ⟨rfl, S0.below⟩


theorem told_ok {H : Hp} {w : World} (hH : H.le (hw w)) {L : List (List UInt8)} {aa0 : Option Addr} {nn0 cc0 : Nat} (hv : RdL H (.slice aa0 nn0 cc0) L) (i : Int) :
  Calls Tryz.prog 21 #[.slice aa0 nn0 cc0, .int .i64 i] w fun e w' => ∃ a c, (wasAt L i).length ≤ c ∧ e = .returned (.slice a (wasAt L i).length c) ∧ Rd H (.slice a (wasAt L i).length c) (wasAt L i).length 1 ((wasAt L i).map bV) ∧ Below w.heap.size w w' := by
 by_cases hi : 0 ≤ i ∧ i < L.length
 ·rw [wasAt_in hi]; exact told_in hH hv i hi
 ·rw [wasAt_out hi]
  exact (told_out hH hv i hi).mono fun e w' h => ⟨none, 0, Nat.le_refl _, h.1, nilB _, h.2⟩

theorem signed_a {H : Hp} {w : World} (hH : H.le (hw w)) {L : List (List UInt8)} {aa0 : Option Addr} {nn0 cc0 : Nat} (hv : RdL H (.slice aa0 nn0 cc0) L) (i : Int) (hi : 0 ≤ i ∧ i < L.length) (h0 : (L.getD i.toNat []).length = 0) :
  Calls Tryz.prog 40 #[.slice aa0 nn0 cc0, .int .i64 i] w fun e w' => e = .returned (.slice none 0 0) ∧ Below w.heap.size w w' := by
 obtain rfl : nn0 = L.length := hv.len
 refine enter2 _ Tryz.func40 rfl Tryz.ntmps40 Tryz.results40 rfl ?_
 have S0 := St.start w hH
 refine Wr (Pv (T_nil (W_seq (Wr ?_))))
 refine P3 ?_
 refine T_bool 7 false rfl (decide_eq_false (by omega)) ?_
 iterate 4 (refine Ys ?_; refine Pv ?_)
 refine P2 ?_
 refine T_bool 13 false rfl (decide_eq_false (by omega)) ?_
 iterate 2 (refine Ys ?_; refine Pv ?_)
 refine Ys ?_
 obtain ⟨hs4, r5, r6⟩ := (id hv)
 refine Af i.toNat r5 fun b1 o2 hc3 => ?_
 obtain ⟨a9, c10, hc12, hv8, r11⟩ := r6.at i.toNat (by omega)
 have hc13 := hc3 0 (.slice a9 (L.getD i.toNat []).length c10) (by simpa using hv8)
 simp only [Nat.add_zero] at hc13
 refine Ys ?_
 refine Ab (r := by exact hc13) S0 ?_
 iterate 2 (refine Ys ?_; refine Pv ?_)
 refine Pv (T_nil ?_)
 refine W_bool 20 true rfl (decide_eq_true (by omega)) ?_
 refine W_cond_true rfl (Wr (Pv (T_nil (W_ret ?_))))
 refine ⟨_, ⟨_, _, rfl, rfl, rfl⟩, ?_⟩
 exact ⟨rfl, S0.below⟩


theorem signed_b {H : Hp} {w : World} (hH : H.le (hw w)) {L : List (List UInt8)} {aa0 : Option Addr} {nn0 cc0 : Nat} (hv : RdL H (.slice aa0 nn0 cc0) L) (i : Int) (hi : ¬ (0 ≤ i ∧ i < L.length)) :
  Calls Tryz.prog 40 #[.slice aa0 nn0 cc0, .int .i64 i] w fun e w' => e = .returned (.slice none 0 0) ∧ Below w.heap.size w w' := by
 obtain rfl : nn0 = L.length := hv.len
 refine enter2 _ Tryz.func40 rfl Tryz.ntmps40 Tryz.results40 rfl ?_
 have S0 := St.start w hH
 refine Wr (Pv (T_nil (W_seq (Wr ?_))))
 refine P3 ?_
 refine Td 7 (fun h1 => ?_) (fun h1 => ?_)
 ·iterate 4 refine No ?_
  refine P2 ?_
  iterate 6 refine No ?_
  refine Pv (T_nil ?_)
  refine W_cond_true rfl (Wr (Pv (T_nil (W_ret ?_))))
  refine ⟨_, ⟨_, _, rfl, rfl, rfl⟩, ?_⟩
  exact ⟨rfl, S0.below⟩
 iterate 4 (refine Ys ?_; refine Pv ?_)
 refine P2 ?_
 refine T_bool 13 true rfl (decide_eq_true (by omega)) ?_
 iterate 6 refine No ?_
 refine Pv (T_nil ?_)
 refine W_cond_true rfl (Wr (Pv (T_nil (W_ret ?_))))
 refine ⟨_, ⟨_, _, rfl, rfl, rfl⟩, ?_⟩
 exact ⟨rfl, S0.below⟩


theorem signed_c {H : Hp} {w : World} (hH : H.le (hw w)) {L : List (List UInt8)} {aa0 : Option Addr} {nn0 cc0 : Nat} (hv : RdL H (.slice aa0 nn0 cc0) L) (i : Int) (hi : 0 ≤ i ∧ i < L.length) (h0 : ¬ (L.getD i.toNat []).length = 0) :
  Calls Tryz.prog 40 #[.slice aa0 nn0 cc0, .int .i64 i] w fun e w' => ∃ a c, (L.getD i.toNat []).length ≤ c ∧ e = .returned (.slice a (L.getD i.toNat []).length c) ∧ Rd H (.slice a (L.getD i.toNat []).length c) (L.getD i.toNat []).length 1 ((L.getD i.toNat []).map bV) ∧ Below w.heap.size w w' := by
 obtain rfl : nn0 = L.length := hv.len
 refine enter2 _ Tryz.func40 rfl Tryz.ntmps40 Tryz.results40 rfl ?_
 have S0 := St.start w hH
 refine Wr (Pv (T_nil (W_seq (Wr ?_))))
 refine P3 ?_
 refine T_bool 7 false rfl (decide_eq_false (by omega)) ?_
 iterate 4 (refine Ys ?_; refine Pv ?_)
 refine P2 ?_
 refine T_bool 13 false rfl (decide_eq_false (by omega)) ?_
 iterate 2 (refine Ys ?_; refine Pv ?_)
 refine Ys ?_
 obtain ⟨hs4, r5, r6⟩ := (id hv)
 refine Af i.toNat r5 fun b1 o2 hc3 => ?_
 obtain ⟨a9, c10, hc12, hv8, r11⟩ := r6.at i.toNat (by omega)
 have hc13 := hc3 0 (.slice a9 (L.getD i.toNat []).length c10) (by simpa using hv8)
 simp only [Nat.add_zero] at hc13
 refine Ys ?_
 refine Ab (r := by exact hc13) S0 ?_
 iterate 2 (refine Ys ?_; refine Pv ?_)
 refine Pv (T_nil ?_)
 refine W_bool 20 false rfl (decide_eq_false (by omega)) ?_
 refine W_cond_false rfl (W_skip (Wr (P2 ?_)))
 obtain ⟨hs17, r18, r19⟩ := (id hv)
 refine Af i.toNat r18 fun b14 o15 hc16 => ?_
 obtain ⟨a22, c23, hc25, hv21, r24⟩ := r19.at i.toNat (by omega)
 have hc26 := hc16 0 (.slice a22 (L.getD i.toNat []).length c23) (by simpa using hv21)
 simp only [Nat.add_zero] at hc26
 refine Ab (r := by exact hc26) S0 ?_
 refine Pv (T_nil (W_ret ?_))
 refine ⟨_, ⟨_, _, rfl, rfl, rfl⟩, ?_⟩
 exact ⟨_, _, hc25, rfl, r24, S0.below⟩


theorem signedNo_ok {H : Hp} {w : World} (hH : H.le (hw w)) {L : List (List UInt8)} {aa0 : Option Addr} {nn0 cc0 : Nat} (hv : RdL H (.slice aa0 nn0 cc0) L) (i : Int) (h0 : (wasAt L i).length = 0) :
  Calls Tryz.prog 40 #[.slice aa0 nn0 cc0, .int .i64 i] w fun e w' => e = .returned (.slice none 0 0) ∧ Below w.heap.size w w' := by
 by_cases hi : 0 ≤ i ∧ i < L.length
 ·rw [wasAt_in hi] at h0; exact signed_a hH hv i hi h0
 ·exact signed_b hH hv i hi
theorem signedYes_ok {H : Hp} {w : World} (hH : H.le (hw w)) {L : List (List UInt8)} {aa0 : Option Addr} {nn0 cc0 : Nat} (hv : RdL H (.slice aa0 nn0 cc0) L) (i : Int) (h0 : ¬ (wasAt L i).length = 0) :
  Calls Tryz.prog 40 #[.slice aa0 nn0 cc0, .int .i64 i] w fun e w' => ∃ a c, (wasAt L i).length ≤ c ∧ e = .returned (.slice a (wasAt L i).length c) ∧ Rd H (.slice a (wasAt L i).length c) (wasAt L i).length 1 ((wasAt L i).map bV) ∧ Below w.heap.size w w' := by
 by_cases hi : 0 ≤ i ∧ i < L.length
 ·rw [wasAt_in hi] at h0 ⊢; exact signed_c hH hv i hi h0
 ·rw [wasAt_out hi] at h0; exact absurd rfl h0

theorem equalI_ok {H : Hp} {w : World} (hH : H.le (hw w)) {l : List Int} {aa0 : Option Addr} {nn0 cc0 : Nat} (hv : Rd H (.slice aa0 nn0 cc0) nn0 1 (l.map iV)) {m : List Int} {aa1 : Option Addr} {nn1 cc1 : Nat} (hu : Rd H (.slice aa1 nn1 cc1) nn1 1 (m.map iV)) (hb : l.length ≤ 1000) :
  Calls Tryz.prog 36 #[.slice aa0 nn0 cc0, .slice aa1 nn1 cc1] w fun e w' => e = .returned (.bool (decide (l = m))) ∧ Below w.heap.size w w' := by
 obtain rfl : nn0 = l.length := hv.lenI
 have hvcap : l.length ≤ cc0 := hv.capOf
 obtain rfl : nn1 = m.length := hu.lenI
 have hucap : m.length ≤ cc1 := hu.capOf
 refine enter2 _ Tryz.func36 rfl Tryz.ntmps36 Tryz.results36 rfl ?_
 have S0 := St.start w hH
 refine Wr (Pv (T_nil (W_seq (Wr ?_))))
 iterate 5 refine Pv ?_
 refine T_nil (W_cond_not rfl (fun h1 => ?_) (fun h1 => ?_))
 ·refine Wr (Pv (T_nil (W_ret ?_)))
  refine ⟨_, ⟨_, _, rfl, rfl, rfl⟩, ?_⟩
  exact ⟨congrArg (fun z => Ending.returned (Value.bool z)) (decide_eq_false (fun e => h1 (by rw [e]))).symm, S0.below⟩
 refine W_skip (W_seq (Wr (P3 (T_nil (W_block ?_)))))
 refine W_loop (fun M ρ w' => ∃ (k : Nat) (G2 : Hp), M = l.length - k ∧ k ≤ l.length ∧ l.take k = m.take k ∧ ρ = [(0, .slice aa0 l.length cc0), (1, .slice aa1 m.length cc1), (12, .int .i64 ((l.length : Nat) : Int)), (13, .int .i64 (k : Int))] ∧ H.le G2 ∧ St w H G2 [] w')
  (l.length - 0) [(0, .slice aa0 l.length cc0), (1, .slice aa1 m.length cc1), (12, .int .i64 ((l.length : Nat) : Int)), (13, .int .i64 ((0 : Nat) : Int))] ⟨rfl, rfl, ciI, ciI, trivial⟩ ⟨0, H, rfl, (by omega), (by simp), rfl, Hp.le.refl _, S0⟩ ?_
 rintro M ρ w4 ⟨k, G2, rfl, hp6, hq, rfl, hl3, S5⟩
 refine Wr (Pv (T_nil (W_seq ?_)))
 refine Aa (fun h8 => ?_) (fun h8 => ?_)
 ·refine W_skip (W_seq (W_block (Wr (P2 (T_nil (W_seq ?_))))))
  refine W_draw rfl (by kernel_rfl) ?_
  have S9 := S5.drew
  refine P2 ?_
  refine Af k (hv.mono hl3) fun b10 o11 hc12 => ?_
  have hc13 := hc12 0 (.int .i64 (l.getD k 0)) (at_i l k (by omega))
  simp only [Nat.add_zero] at hc13
  refine Ab (r := by exact hc13) S9 ?_
  refine P2 ?_
  refine Af k (hu.mono hl3) fun b14 o15 hc16 => ?_
  have hc17 := hc16 0 (.int .i64 (m.getD k 0)) (at_i m k (by omega))
  simp only [Nat.add_zero] at hc17
  refine Ab (r := by exact hc17) S9 ?_
  refine Pv (T_nil ?_)
  refine W_cond_not rfl (fun h18 => ?_) (fun h18 => ?_)
  ·refine Wr (Pv (T_nil (W_ret ?_)))
   refine ⟨_, ⟨_, _, rfl, rfl, rfl⟩, ?_⟩
   exact ⟨congrArg (fun z => Ending.returned (Value.bool z)) (decide_eq_false (getD_ne (d := 0) h18)).symm, S9.below⟩
  refine W_skip (W_region (Ar ?_))
  refine Pv (T_nil ?_)
  have HEQ : l.getD k 0 = m.getD k 0 := by exact h18
  exact ⟨l.length - (k + 1), [(0, .slice aa0 l.length cc0), (1, .slice aa1 m.length cc1), (12, .int .i64 ((l.length : Nat) : Int)), (13, .int .i64 ((k + 1 : Nat) : Int))], by omega, ⟨rfl, rfl, ciI, ciI, trivial⟩, k + 1, G2, rfl, (by omega), (by exact take_ext (d := 0) (by omega) (by omega) hq HEQ), rfl, hl3, S9⟩
 refine W_exit (Wr (Pv (T_nil (W_ret ?_))))
 refine ⟨_, ⟨_, _, rfl, rfl, rfl⟩, ?_⟩
 have hk : k = l.length := by omega
 have heq : l = m := by rw [hk, List.take_length, List.take_of_length_le (by omega)] at hq; exact hq
 exact ⟨congrArg (fun z => Ending.returned (Value.bool z)) (decide_eq_true heq).symm, S5.below⟩


theorem cloneB_ok {H : Hp} {w : World} (hH : H.le (hw w)) {b : List UInt8} {aa0 : Option Addr} {nn0 cc0 : Nat} (hv : Rd H (.slice aa0 nn0 cc0) nn0 1 (b.map bV)) (hb : b.length ≤ 100000) :
  Calls Tryz.prog 70 #[.slice aa0 nn0 cc0] w fun e w' => ∃ a c, b.length ≤ c ∧ e = .returned (.slice a b.length c) ∧ rowZ w' w.heap.size 5 1 (.slice a b.length c) b.length (b.map bV) ∧ Below w.heap.size w w' := by
 obtain rfl : nn0 = b.length := hv.lenB
 have hvcap : b.length ≤ cc0 := hv.capOf
 refine enter1 _ Tryz.func70 rfl Tryz.ntmps70 Tryz.results70 rfl ?_
 have S0 := St.start w hH
 refine Wr (Pv (T_nil (W_seq (Wr ?_))))
 refine Pv ?_
 refine T_snil rfl rfl rfl rfl rfl rfl rfl (T_nil (W_cond rfl (fun h1 => ?_) (fun h1 => ?_)))
 ·refine Wr (Pv (T_nil (W_ret ?_)))
  refine ⟨_, ⟨_, _, rfl, rfl, rfl⟩, ?_⟩
  obtain rfl := nilB_of hv h1
  exact ⟨none, 0, Nat.le_refl _, rfl, (S0.nilRow 5 1).row 0 rfl, S0.below⟩
 refine W_skip (Wr (Ad (hone := by simp) ([].map bV) fun a2 w3 hB4 ho5 => ?_))
 have S6 := S0.own hB4 ho5
 refine ⟨trivial, ?_⟩
 refine Pv ?_
 refine Ae (h1 := by exact one_bV _) (hn' := by first | rfl | (simp; done) | (simp; omega) | omega) (hx' := by simp) (hbytes := by show _ * 1 ≤ _; omega) 0 b.length (b.map bV) S6 (hv.mono S6.le) fun a7 c8 w9 hc10 S11 => ?_
 refine Pv (T_nil (W_ret ?_))
 refine ⟨_, ⟨_, _, rfl, rfl, rfl⟩, ?_⟩
 exact ⟨_, _, hc10, rfl, S11.row 0 rfl, S11.below⟩


theorem cloneL_ok {w : World} {b : List UInt8} {a : Option Addr} (hv : Rd (hw w) (.slice a 32 32) 32 1 (b.map bV)) (hl : b.length = 32) :
  Calls Tryz.prog 70 #[.slice a 32 32] w fun e w' => ∃ a c, b.length ≤ c ∧ e = .returned (.slice a b.length c) ∧ rowZ w' w.heap.size 5 1 (.slice a b.length c) b.length (b.map bV) ∧ Below w.heap.size w w' := cloneB_ok (Hp.le.refl _) hv (by omega)

theorem two_ok {H : Hp} {w : World} (hH : H.le (hw w)) {b : List UInt8} {aa0 : Option Addr} {nn0 cc0 : Nat} (hv : Rd H (.slice aa0 nn0 cc0) nn0 1 (b.map bV)) {c : List UInt8} {aa1 : Option Addr} {nn1 cc1 : Nat} (hu : Rd H (.slice aa1 nn1 cc1) nn1 1 (c.map bV)) :
  Calls Tryz.prog 26 #[.slice aa0 nn0 cc0, .slice aa1 nn1 cc1] w fun e w' => ∃ a1 c1 a2 c2, e = .returned (.tuple #[gV [[.slice a1 (twoF b c).A.length c1], [.slice a2 (twoF b c).B.length c2], [.bool (twoF b c).k], [.int .i64 (twoF b c).a], [.int .i64 (twoF b c).c], [.int .i64 (twoF b c).q], (twoF b c).x.map bV], .bool (!decide (b = c))]) ∧ Rd (F.ext H w.heap.size w') (.slice a1 (twoF b c).A.length c1) (twoF b c).A.length 1 ((twoF b c).A.map bV) ∧ Rd (F.ext H w.heap.size w') (.slice a2 (twoF b c).B.length c2) (twoF b c).B.length 1 ((twoF b c).B.map bV) ∧ Below w.heap.size w w' := by
 obtain rfl : nn0 = b.length := hv.lenB
 have hvcap : b.length ≤ cc0 := hv.capOf
 obtain rfl : nn1 = c.length := hu.lenB
 have hucap : c.length ≤ cc1 := hu.capOf
 refine enter2 _ Tryz.func26 rfl Tryz.ntmps26 Tryz.results26 rfl ?_
 have S0 := St.start w hH
 refine Wr (Ac S0 fun b1 w2 S3 => ?_)
 refine Pv (T_nil (W_seq (Wr ?_)))
 refine P2 ?_
 refine Cs g_bytes_Equal ((beq_ok S3.le hv hu).mono ?_)
 rintro e w5 ⟨rfl, hB4⟩
 have S6 := S3.call hB4
 refine ⟨_, rfl, trivial, ?_⟩
 refine T_nil (Aa (fun h7 => ?_) (fun h7 => ?_))
 ·refine Wr (T_buildS (cells := (gV [[.slice none 0 0], [.slice none 0 0], [.bool false], [.int .i64 0], [.int .i64 0], [.int .i64 0], (List.replicate 32 0).map bV] : Value).cells) rfl rfl rfl rfl rfl rfl fill_gnil rfl rfl rfl (Ag (hl := by exact gV_size (L := [[.slice none 0 0], [.slice none 0 0], [.bool false], [.int .i64 0], [.int .i64 0], [.int .i64 0], (List.replicate 32 0).map bV]) (ns := [1, 1, 1, 1, 1, 1, 32]) (Shp.cons rfl (Shp.cons rfl (Shp.cons rfl (Shp.cons rfl (Shp.cons rfl (Shp.cons rfl (Shp.cons (lenB List.length_replicate) Shp.nil))))))) rfl) (hl2 := by exact gV_size (L := [[.slice none 0 0], [.slice none 0 0], [.bool false], [.int .i64 0], [.int .i64 0], [.int .i64 0], (List.replicate 32 0).map bV]) (ns := [1, 1, 1, 1, 1, 1, 32]) (Shp.cons rfl (Shp.cons rfl (Shp.cons rfl (Shp.cons rfl (Shp.cons rfl (Shp.cons rfl (Shp.cons (lenB List.length_replicate) Shp.nil))))))) rfl) (h1 := by exact gV_one (OneL.one rfl (OneL.one rfl (OneL.one rfl (OneL.one rfl (OneL.one rfl (OneL.one rfl (OneL.arr OneL.nil)))))))) 0 S6 fun w8 S9 => ?_))
  refine Pv (T_nil (W_ret ?_))
  refine ⟨_, ⟨_, _, _, rfl, rfl, run_loadVarA rfl rfl (gV_size (L := [[.slice none 0 0], [.slice none 0 0], [.bool false], [.int .i64 0], [.int .i64 0], [.int .i64 0], (List.replicate 32 0).map bV]) (ns := [1, 1, 1, 1, 1, 1, 32]) (Shp.cons rfl (Shp.cons rfl (Shp.cons rfl (Shp.cons rfl (Shp.cons rfl (Shp.cons rfl (Shp.cons (lenB List.length_replicate) Shp.nil))))))) rfl) (S9.cells 0 rfl), ⟨_, _, rfl, rfl, rfl⟩⟩, ?_⟩
  exact fg_end (f := (twoF b c)) (b := !decide (b = c)) (f' := fg0) (twoF_eq h7) (by rw [decide_eq_true h7]; rfl) (nilB _) (nilB _) S9.fin S9.below
 refine W_skip (Wr (P2 ?_))
 refine T_buildS (cells := #[.slice aa0 b.length cc0, .slice aa1 c.length cc1]) rfl rfl rfl rfl rfl rfl rfl rfl rfl rfl (T_buildS (cells := (gV [[.slice aa0 b.length cc0], [.slice aa1 c.length cc1], [.bool false], [.int .i64 0], [.int .i64 0], [.int .i64 0], (List.replicate 32 0).map bV] : Value).cells) rfl rfl rfl rfl rfl rfl (fill_g (L := [[.slice none 0 0], [.slice none 0 0], [.bool false], [.int .i64 0], [.int .i64 0], [.int .i64 0], (List.replicate 32 0).map bV]) (ns := [1, 1, 1, 1, 1, 1, 32]) (v := .agg #[.slice aa0 b.length cc0, .slice aa1 c.length cc1]) (off := 0) (k := 2) rfl (Shp.cons rfl (Shp.cons rfl (Shp.cons rfl (Shp.cons rfl (Shp.cons rfl (Shp.cons rfl (Shp.cons (lenB List.length_replicate) Shp.nil))))))) 0 2 [[.slice aa0 b.length cc0], [.slice aa1 c.length cc1]] rfl (by first | rfl | simp [hVs, *]) rfl rfl fill_gnil) rfl rfl rfl ?_)
 refine Ag (hl := by exact gV_size (L := [[.slice aa0 b.length cc0], [.slice aa1 c.length cc1], [.bool false], [.int .i64 0], [.int .i64 0], [.int .i64 0], (List.replicate 32 0).map bV]) (ns := [1, 1, 1, 1, 1, 1, 32]) (Shp.cons rfl (Shp.cons rfl (Shp.cons rfl (Shp.cons rfl (Shp.cons rfl (Shp.cons rfl (Shp.cons (lenB List.length_replicate) Shp.nil))))))) rfl) (hl2 := by exact gV_size (L := [[.slice aa0 b.length cc0], [.slice aa1 c.length cc1], [.bool false], [.int .i64 0], [.int .i64 0], [.int .i64 0], (List.replicate 32 0).map bV]) (ns := [1, 1, 1, 1, 1, 1, 32]) (Shp.cons rfl (Shp.cons rfl (Shp.cons rfl (Shp.cons rfl (Shp.cons rfl (Shp.cons rfl (Shp.cons (lenB List.length_replicate) Shp.nil))))))) rfl) (h1 := by exact gV_one (OneL.one rfl (OneL.one rfl (OneL.one rfl (OneL.one rfl (OneL.one rfl (OneL.one rfl (OneL.arr OneL.nil)))))))) 0 S6 fun w10 S11 => ?_
 refine Pv (T_nil (W_ret ?_))
 refine ⟨_, ⟨_, _, _, rfl, rfl, run_loadVarA rfl rfl (gV_size (L := [[.slice aa0 b.length cc0], [.slice aa1 c.length cc1], [.bool false], [.int .i64 0], [.int .i64 0], [.int .i64 0], (List.replicate 32 0).map bV]) (ns := [1, 1, 1, 1, 1, 1, 32]) (Shp.cons rfl (Shp.cons rfl (Shp.cons rfl (Shp.cons rfl (Shp.cons rfl (Shp.cons rfl (Shp.cons (lenB List.length_replicate) Shp.nil))))))) rfl) (S11.cells 0 rfl), ⟨_, _, rfl, rfl, rfl⟩⟩, ?_⟩
 exact fg_end (f := (twoF b c)) (b := !decide (b = c)) (f' := fgB b c) (twoF_ne h7) (by rw [decide_eq_false h7]; rfl) hv hu S11.fin S11.below


theorem mssEnds_ok {H : Hp} {w : World} (hH : H.le (hw w)) (hT : Tabs H) {l : List (List UInt8)} {aa0 : Option Addr} {nn0 cc0 : Nat} (hv : RdH H (.slice aa0 nn0 cc0) 32 l) (hn : l.length ≤ 100) :
  Calls Tryz.prog 33 #[.slice aa0 nn0 cc0] w fun e w' => ∃ a c, (pubT l).length ≤ c ∧ e = .returned (.slice a (pubT l).length c) ∧ rowZ w' w.heap.size 5 1 (.slice a (pubT l).length c) (pubT l).length ((pubT l).map bV) ∧ Below w.heap.size w w' := by
 obtain rfl : nn0 = l.length := hv.len
 have hvcap : l.length ≤ cc0 := hv.2.capOf
 have htl := text_all (tag := [112, 117, 98, 108, 105, 99]) (n := 100) (by decide) hv.1 (by decide) hn (by decide)
 refine enter1 _ Tryz.func33 rfl Tryz.ntmps33 Tryz.results33 rfl ?_
 have S0 := St.start w hH
 refine Wr (Pv (Nr ?_))
 refine Pv (T_nil (W_seq (Wr ?_)))
 refine P3 (T_nil (W_block ?_))
 have S1 := S0.nilRow 24 1
 have rs2 := Rds.nil H
 refine W_loop (fun M ρ w' => ∃ (k : Nat) (a5 : Option Addr) (c6 : Nat) (hs8 : List Value) (G3 : Hp), M = l.length - k ∧ k ≤ l.length ∧ ρ = [(3, .slice a5 ((l.take k).length) c6), (6, .slice aa0 l.length cc0), (7, .int .i64 ((l.length : Nat) : Int)), (8, .int .i64 (k : Int))] ∧ H.le G3 ∧ St w H G3 [.row 24 1 (.slice a5 ((l.take k).length) c6) ((l.take k).length) hs8] w' ∧ Rds G3 hs8 (l.take k) ∧ (l.take k).length ≤ c6)
  (l.length - 0) [(3, .slice none 0 0), (6, .slice aa0 l.length cc0), (7, .int .i64 ((l.length : Nat) : Int)), (8, .int .i64 ((0 : Nat) : Int))] ⟨rfl, rfl, ciI, ciI, trivial⟩ ⟨0, none, 0, _, H, rfl, (by omega), rfl, Hp.le.refl _, S1, rs2, (Nat.le_refl _)⟩ ?_
 rintro M ρ w10 ⟨k, a5, c6, hs8, G3, rfl, hp12, rfl, hl4, S11, rs9, hc7⟩
 refine Wr (Pv (T_nil (W_seq ?_)))
 refine Aa (fun h13 => ?_) (fun h13 => ?_)
 ·refine W_skip (W_seq (W_block (Wr (Af k (hv.mono hl4).2 fun b14 o15 hc16 => ?_))))
  have hc17 := cells_h (hv.mono hl4).1 k (by omega) hc16
  have hl18 := len_h (hv.mono hl4).1 k (by omega)
  have hlk := len_h hv.1 k (by omega)
  refine T_loadGA _ S11 hc17 rfl rfl rfl rfl rfl rfl rfl rfl (hVs hl18) (Ac S11 fun b19 w20 S21 => ?_)
  refine Ag (hl := by exact hVs hl18) (hl2 := by exact hVs hl18) (h1 := by exact one_hA _) 0 S21 fun w22 S23 => (T_nil (W_region ?_))
  refine Pv ?_
  obtain ⟨G25, hl26, S24, r27⟩ := S23.stillBlk 0 rfl
  refine T_sliceAll rfl rfl rfl rfl rfl rfl rfl rfl ?_
  have r28 := Rd.of_blk (m := 32) (size := 1) (xs := (l.getD k []).map bV) r27 (hcell1 _) (by rw [List.length_map, hl18])
  refine T_callS rfl rfl g_slices_Clone_byte_byte rfl rfl rfl rfl ((cloneB_ok S24.le r28 (by first | omega | decide)).mono ?_)
  rintro e w34 ⟨a29, c30, hc31, rfl, ho32, hB33⟩
  have S35 := S24.own hB33 ho32
  refine ⟨_, rfl, trivial, ?_⟩
  obtain ⟨G41, hl42, S40, r43⟩ := S35.stillRow 0 rfl
  have rs44 : Rds G41 [.slice a29 ((l.getD k []).length) c30] [(l.getD k [])] := Rds.cons (Rd.canonB r43) (Rds.nil _)
  refine Ad (hone := by simp [Value.cells]; rfl) [.slice a29 ((l.getD k []).length) c30] fun a36 w37 hB38 ho39 => ?_
  have S45 := S40.own hB38 ho39
  refine ⟨trivial, ?_⟩
  have hD46 : ((l.take k) ++ [(l.getD k [])]) = (l.take (k + 1)) := (take_snoc (by omega))
  refine T_appendS 1 ((l.take (k + 1)).length) _ S45 (fun _ _ => trivial) rfl rfl rfl rfl rfl rfl rfl rfl rfl rfl rfl rfl rfl rfl (S45.rd 0 rfl) rs44.one (by rw [← hD46]; first | rfl | (simp; done) | (simp; omega) | omega) rfl (by unfold maxLen; rw [List.length_take]; omega) (by show _ * 24 ≤ _; rw [List.length_take]; omega) fun a47 c48 w49 hc50 S51 => ?_
  have rs52 := Rds.append (rs9.mono (hl26.trans hl42)) rs44
  rw [hD46] at rs52
  refine Pv (T_nil (W_region ?_))
  refine Ar ?_
  refine Pv (T_nil ?_)
  have S53 := S51.drop 0
  exact ⟨l.length - (k + 1), [(3, .slice a47 ((l.take (k + 1)).length) c48), (6, .slice aa0 l.length cc0), (7, .int .i64 ((l.length : Nat) : Int)), (8, .int .i64 ((k + 1 : Nat) : Int))], by omega, ⟨rfl, rfl, ciI, ciI, trivial⟩, k + 1, a47, c48, _, G41, rfl, (by omega), rfl, (hl4.trans (hl26.trans hl42)), S53, rs52, hc50⟩
 refine W_exit (Wr (Pv ?_))
 have hkl : k = l.length := by omega
 have hll : l.take k = l := by rw [List.take_of_length_le (by omega)]
 obtain ⟨G55, hl56, S54, r57⟩ := S11.stillRow 0 rfl
 have r58 := RdL.mk r57 (rs9.mono hl56)
 refine Cs g_aumbry_sha_Text ((text_ok S54.le (hT.mono (hl4.trans hl56)) r58 (by rw [hll]; exact htl)).mono ?_)
 rintro e w64 ⟨a59, c60, hc61, rfl, ho62, hB63⟩
 have S65 := S54.own hB63 ho62
 refine ⟨_, rfl, trivial, ?_⟩
 refine Pv (T_nil (W_ret ?_))
 refine ⟨_, ⟨_, _, rfl, rfl, rfl⟩, ?_⟩
 exact nets_end (by rw [hll]; rfl) hc61 (S65.row 0 rfl) S65.below


theorem trueE_ok {H : Hp} {w : World} (hH : H.le (hw w)) (hT : Tabs H) {seed : List UInt8} (leaf : Int) (hs : seed.length = 16) (hl : leaf ≤ 9223372036854775807) :
  Calls Tryz.prog 34 #[hV seed, .int .i64 leaf] w fun e w' => ∃ a c, 67 ≤ c ∧ e = .returned (.slice a 67 c) ∧ rowZ w' w.heap.size 37 32 (.slice a 67 c) 67 (hcells (trueEnds seed leaf 67)) ∧ Below w.heap.size w w' := by
 refine enter2 _ Tryz.func34 rfl Tryz.ntmps34 Tryz.results34 rfl ?_
 have S0 := St.start w hH
 refine Wr (Ah S0 fun b1 w2 S3 => ?_)
 refine Pv (Nr ?_)
 refine Pv (T_nil (W_seq (Wr ?_)))
 refine Pv (T_nil (W_block ?_))
 have S4 := S3.nilRow 37 32
 refine W_loop (fun M ρ w' => ∃ (k : Nat) (a7 : Option Addr) (c8 : Nat) (G5 : Hp), M = 67 - k ∧ k ≤ 67 ∧ ρ = [(1, .int .i64 leaf), (2, .pointer (some ⟨b1, 0, none⟩)), (5, .slice a7 k c8), (7, .int .i64 (k : Int))] ∧ H.le G5 ∧ St w H G5 [.row 37 32 (.slice a7 k c8) k (hcells (trueEnds seed leaf k)), .blk b1 (hV seed : Value).cells 23] w' ∧ (∀ y ∈ trueEnds seed leaf k, y.length = 32) ∧ k ≤ c8)
  (67 - 0) [(1, .int .i64 leaf), (2, .pointer (some ⟨b1, 0, none⟩)), (5, .slice none 0 0), (7, .int .i64 ((0 : Nat) : Int))] ⟨ciI, rfl, rfl, ciI, trivial⟩ ⟨0, none, 0, H, rfl, (by omega), rfl, Hp.le.refl _, S4, (fun _ h => by cases h), (Nat.le_refl _)⟩ ?_
 rintro M ρ w11 ⟨k, a7, c8, G5, rfl, hp13, rfl, hl6, S12, hh10, hc9⟩
 refine Wr (Pv (T_nil (W_seq ?_)))
 refine Aa (fun h14 => ?_) (fun h14 => ?_)
 ·refine W_skip (W_seq (W_block (Wr (P2 (T_nil (W_region ?_))))))
  refine Pv ?_
  refine Ai (hl := by exact hVs hs) 1 S12 ?_
  refine P2 ?_
  refine Cs g_aumbry_wots_Start ((start_ok S12.le (hT.mono hl6) leaf (k : Int) hs (by omega) (by omega)).mono ?_)
  rintro e w16 ⟨rfl, hB15⟩
  have S17 := S12.call hB15
  refine ⟨_, rfl, trivial, ?_⟩
  refine Cs g_aumbry_wots_Along ((along_ok S17.le (hT.mono hl6) (15 : Int) (start_len _ _ _)).mono ?_)
  rintro e w19 ⟨rfl, hB18⟩
  have S20 := S17.call hB18
  refine ⟨_, rfl, trivial, ?_⟩
  refine T_re (v' := hV (Go.Au.steps 15 (Go.Au.start seed leaf (k : Int)))) rfl (T_litS (hcells [Go.Au.steps 15 (Go.Au.start seed leaf (k : Int))]) rfl rfl rfl rfl rfl rfl rfl rfl rfl rfl rfl rfl rfl (one_h (steps_len _ (start_len _ _ _))) (by simp [hcells, hV, Value.cells]) fun a21 w22 hB23 ho24 => ?_)
  have S25 := S20.own hB23 ho24
  refine ⟨trivial, ?_⟩
  have hD26 : (trueEnds seed leaf k ++ [Go.Au.steps 15 (Go.Au.start seed leaf (k : Int))]) = trueEnds seed leaf (k + 1) := (trueEnds_snoc _ _ _)
  refine Ae (h1 := by exact one_hcells _) (hn' := by first | rfl | (simp; done) | (simp; omega) | omega) (hx' := by rw [← hD26]; simp [hcells_append, hcells]) (hbytes := by show _ * 32 ≤ _; omega) 1 (k + 1) (hcells (trueEnds seed leaf (k + 1))) S25 (S25.rd 0 rfl) fun a27 c28 w29 hc30 S31 => ?_
  have hh32 : ∀ y ∈ trueEnds seed leaf (k + 1), y.length = 32 := by rw [← hD26]; exact (all_app hh10 (all_h1 (steps_len _ (start_len _ _ _))))
  refine Pv (T_nil (W_region ?_))
  refine Ar ?_
  refine Pv (T_nil ?_)
  have S33 := S31.drop 0
  exact ⟨67 - (k + 1), [(1, .int .i64 leaf), (2, .pointer (some ⟨b1, 0, none⟩)), (5, .slice a27 (k + 1) c28), (7, .int .i64 ((k + 1 : Nat) : Int))], by omega, ⟨ciI, rfl, rfl, ciI, trivial⟩, k + 1, a27, c28, G5, rfl, (by omega), rfl, hl6, S33, hh32, hc30⟩
 refine W_exit (Wr (P2 (T_nil (W_ret ?_))))
 refine ⟨_, ⟨_, _, rfl, rfl, rfl⟩, ?_⟩
 obtain rfl : k = 67 := by omega
 exact ⟨_, _, hc9, rfl, S12.row 0 rfl, S12.below⟩


theorem step_ok2 {H : Hp} {w : World} (hH : H.le (hw w)) (hT : Tabs H) {seed x : List UInt8} (hs : seed.length = 16) (hx : x.length = 32) (l c : Int) (d : Nat) (hl : l ≤ 9223372036854775807) (hc : c ≤ 9223372036854775807) (hd : d ≤ 15) :
  Calls Tryz.prog 38 #[hV seed, .int .i64 l, .int .i64 c, .int .i64 ((d : Nat) : Int), hV x] w fun e w' => ∃ a1 c1 a2 c2, e = .returned (gV [[.slice a1 (stepF seed l c d x).A.length c1], [.slice a2 (stepF seed l c d x).B.length c2], [.bool (stepF seed l c d x).k], [.int .i64 (stepF seed l c d x).a], [.int .i64 (stepF seed l c d x).c], [.int .i64 (stepF seed l c d x).q], (stepF seed l c d x).x.map bV]) ∧ Rd (F.ext H w.heap.size w') (.slice a1 (stepF seed l c d x).A.length c1) (stepF seed l c d x).A.length 1 ((stepF seed l c d x).A.map bV) ∧ Rd (F.ext H w.heap.size w') (.slice a2 (stepF seed l c d x).B.length c2) (stepF seed l c d x).B.length 1 ((stepF seed l c d x).B.map bV) ∧ Below w.heap.size w w' := by
 refine enter5 _ Tryz.func38 rfl Tryz.ntmps38 Tryz.results38 rfl ?_
 have S0 := St.start w hH
 refine Wr (Ah S0 fun b1 w2 S3 => ?_)
 refine Ah S3 fun b4 w5 S6 => ?_
 refine Ac S6 fun b7 w8 S9 => (Nr ?_)
 refine P3 ?_
 refine Ai (hl := by exact hVs hx) 1 S9 ?_
 refine T_buildS (cells := (gV [[.slice none 0 0], [.slice none 0 0], [.bool true], [.int .i64 l], [.int .i64 c], [.int .i64 ((d : Nat) : Int)], x.map bV] : Value).cells) rfl rfl rfl rfl rfl rfl (fill_g (L := [[.slice none 0 0], [.slice none 0 0], [.bool false], [.int .i64 0], [.int .i64 0], [.int .i64 0], (List.replicate 32 0).map bV]) (ns := [1, 1, 1, 1, 1, 1, 32]) (v := .bool true) (off := 2) (k := 1) rfl (Shp.cons rfl (Shp.cons rfl (Shp.cons rfl (Shp.cons rfl (Shp.cons rfl (Shp.cons rfl (Shp.cons (lenB List.length_replicate) Shp.nil))))))) 2 1 [[.bool true]] rfl (by first | rfl | simp [hVs, *]) rfl rfl (fill_g (L := [[.slice none 0 0], [.slice none 0 0], [.bool true], [.int .i64 0], [.int .i64 0], [.int .i64 0], (List.replicate 32 0).map bV]) (ns := [1, 1, 1, 1, 1, 1, 32]) (v := .int .i64 l) (off := 3) (k := 1) rfl (Shp.cons rfl (Shp.cons rfl (Shp.cons rfl (Shp.cons rfl (Shp.cons rfl (Shp.cons rfl (Shp.cons (lenB List.length_replicate) Shp.nil))))))) 3 1 [[.int .i64 l]] rfl (by first | rfl | simp [hVs, *]) rfl rfl (fill_g (L := [[.slice none 0 0], [.slice none 0 0], [.bool true], [.int .i64 l], [.int .i64 0], [.int .i64 0], (List.replicate 32 0).map bV]) (ns := [1, 1, 1, 1, 1, 1, 32]) (v := .int .i64 c) (off := 4) (k := 1) rfl (Shp.cons rfl (Shp.cons rfl (Shp.cons rfl (Shp.cons rfl (Shp.cons rfl (Shp.cons rfl (Shp.cons (lenB List.length_replicate) Shp.nil))))))) 4 1 [[.int .i64 c]] rfl (by first | rfl | simp [hVs, *]) rfl rfl (fill_g (L := [[.slice none 0 0], [.slice none 0 0], [.bool true], [.int .i64 l], [.int .i64 c], [.int .i64 0], (List.replicate 32 0).map bV]) (ns := [1, 1, 1, 1, 1, 1, 32]) (v := .int .i64 ((d : Nat) : Int)) (off := 5) (k := 1) rfl (Shp.cons rfl (Shp.cons rfl (Shp.cons rfl (Shp.cons rfl (Shp.cons rfl (Shp.cons rfl (Shp.cons (lenB List.length_replicate) Shp.nil))))))) 5 1 [[.int .i64 ((d : Nat) : Int)]] rfl (by first | rfl | simp [hVs, *]) rfl rfl (fill_g (L := [[.slice none 0 0], [.slice none 0 0], [.bool true], [.int .i64 l], [.int .i64 c], [.int .i64 ((d : Nat) : Int)], (List.replicate 32 0).map bV]) (ns := [1, 1, 1, 1, 1, 1, 32]) (v := hV x) (off := 6) (k := 32) rfl (Shp.cons rfl (Shp.cons rfl (Shp.cons rfl (Shp.cons rfl (Shp.cons rfl (Shp.cons rfl (Shp.cons (lenB List.length_replicate) Shp.nil))))))) 6 1 [x.map bV] flat1 (hVs hx) rfl rfl fill_gnil))))) rfl rfl rfl ?_
 refine Ac S9 fun b10 w11 S12 => ?_
 refine Ag (hl := by exact gV_size (L := [[.slice none 0 0], [.slice none 0 0], [.bool true], [.int .i64 l], [.int .i64 c], [.int .i64 ((d : Nat) : Int)], x.map bV]) (ns := [1, 1, 1, 1, 1, 1, 32]) (Shp.cons rfl (Shp.cons rfl (Shp.cons rfl (Shp.cons rfl (Shp.cons rfl (Shp.cons rfl (Shp.cons (lenB hx) Shp.nil))))))) rfl) (hl2 := by exact gV_size (L := [[.slice none 0 0], [.slice none 0 0], [.bool true], [.int .i64 l], [.int .i64 c], [.int .i64 ((d : Nat) : Int)], x.map bV]) (ns := [1, 1, 1, 1, 1, 1, 32]) (Shp.cons rfl (Shp.cons rfl (Shp.cons rfl (Shp.cons rfl (Shp.cons rfl (Shp.cons rfl (Shp.cons (lenB hx) Shp.nil))))))) rfl) (h1 := by exact gV_one (OneL.one rfl (OneL.one rfl (OneL.one rfl (OneL.one rfl (OneL.one rfl (OneL.one rfl (OneL.arr OneL.nil)))))))) 0 S12 fun w13 S14 => (Nr ?_)
 refine Ai (hl := by exact hVs hs) 3 S14 ?_
 refine P2 ?_
 refine Cs g_aumbry_wots_Start ((start_ok S14.le hT l c hs (by omega) (by omega)).mono ?_)
 rintro e w16 ⟨rfl, hB15⟩
 have S17 := S14.call hB15
 refine ⟨_, rfl, trivial, ?_⟩
 refine Pv ?_
 refine Cs g_aumbry_wots_Along ((along_ok S17.le hT ((d : Nat) : Int) (start_len _ _ _)).mono ?_)
 rintro e w19 ⟨rfl, hB18⟩
 have S20 := S17.call hB18
 refine ⟨_, rfl, trivial, ?_⟩
 refine T_re (v' := hV (ownC seed l c d 0)) (congrArg (fun q => hV (Go.Au.steps q (Go.Au.start seed l c))) (by omega)) ?_
 refine Ac S20 fun b21 w22 S23 => ?_
 refine Ag (hl := by exact hVs (steps_len _ (start_len _ _ _))) (hl2 := by exact hVs (steps_len _ (start_len _ _ _))) (h1 := by exact one_hA _) 0 S23 fun w24 S25 => (T_nil (W_seq (W_block ?_)))
 refine W_loop (fun M ρ w' => ∃ (k : Nat) (F : FgP) (fa : Option Addr) (fc : Nat) (fb : Option Addr) (fd : Nat) (G26 : Hp), M = 15 - (d + k) ∧ d + k ≤ 15 ∧ stepTo seed l c d x k = F ∧ ρ = [(3, .int .i64 ((d + k : Nat) : Int)), (9, .pointer (some ⟨b4, 0, none⟩)), (10, .pointer (some ⟨b7, 0, none⟩)), (11, .pointer (some ⟨b10, 0, none⟩)), (12, .pointer (some ⟨b21, 0, none⟩))] ∧ H.le G26 ∧ St w H G26 [.blk b21 (hV (ownC seed l c d k) : Value).cells 37, .blk b10 (gV [[.slice fa F.A.length fc], [.slice fb F.B.length fd], [.bool F.k], [.int .i64 F.a], [.int .i64 F.c], [.int .i64 F.q], F.x.map bV] : Value).cells 39, .blk b7 (gV [[.slice none 0 0], [.slice none 0 0], [.bool false], [.int .i64 0], [.int .i64 0], [.int .i64 0], (List.replicate 32 0).map bV] : Value).cells 39, .blk b4 (hV (Go.Au.steps k x) : Value).cells 37, .blk b1 (hV seed : Value).cells 23] w' ∧ Rd G26 (.slice fa F.A.length fc) F.A.length 1 (F.A.map bV) ∧ Rd G26 (.slice fb F.B.length fd) F.B.length 1 (F.B.map bV) ∧ F.x.length = 32)
  (15 - (d + 0)) [(3, .int .i64 ((d + 0 : Nat) : Int)), (9, .pointer (some ⟨b4, 0, none⟩)), (10, .pointer (some ⟨b7, 0, none⟩)), (11, .pointer (some ⟨b10, 0, none⟩)), (12, .pointer (some ⟨b21, 0, none⟩))] ⟨ciI, rfl, rfl, rfl, rfl, trivial⟩ ⟨0, (fgL l c (d : Int) x), none, 0, none, 0, H, rfl, (by omega), (by rfl), rfl, Hp.le.refl _, S25, (nilB _), (nilB _), hx⟩ ?_
 rintro M ρ w28 ⟨k, F, fa, fc, fb, fd, G26, rfl, hp30, hst, rfl, hl27, S29, hrA, hrB, hFx⟩
 refine W_seq (Wr (P2 (T_nil ?_)))
 refine Aa (fun h32 => ?_) (fun h32 => ?_)
 ·refine W_skip (W_seq (W_block (W_seq (Wr (Ai (hl := by exact hVs (steps_len _ (start_len _ _ _))) 0 S29 ?_)))))
  refine Ai (hl := by exact hVs (steps_len _ hx)) 3 S29 ?_
  refine T_neB (xs := ownC seed l c d k) (ys := Go.Au.steps k x) rfl rfl rfl rfl rfl rfl rfl rfl rfl rfl rfl (steps_len _ (start_len _ _ _)) (steps_len _ hx) (T_nil (W_cond_not rfl (fun h33 => ?_) (fun h33 => ?_)))
  ·refine W_draw rfl (by kernel_rfl) ?_
   have S34 := S29.drew
   refine T_sliceAll rfl rfl rfl rfl rfl rfl rfl rfl ?_
   have hl36 : (ownC seed l c d k).length = 32 := (steps_len _ (start_len _ _ _))
   have r35 : Rd (hw w28.drew) (.slice (some ⟨b21, 0, none⟩) 32 32) 32 1 ((ownC seed l c d k).map bV) := Rd.of_blk (m := 32) (size := 1) (xs := (ownC seed l c d k).map bV) (S34.blk 0 rfl) (hcell1 _) (by rw [List.length_map, hl36])
   refine Cs g_slices_Clone_byte_byte ((cloneL_ok r35 (hl36)).mono ?_)
   rintro e w42 ⟨a37, c38, hc39, rfl, ho40, hB41⟩
   have S43 := S34.own hB41 ho40
   refine ⟨_, rfl, trivial, ?_⟩
   obtain ⟨G49, hl50, S48, r51⟩ := S43.stillRow 0 rfl
   have rs52 : Rds G49 [.slice a37 ((ownC seed l c d k).length) c38] [ownC seed l c d k] := Rds.cons (Rd.canonB r51) (Rds.nil _)
   refine Ad (hone := by simp [Value.cells]; rfl) [.slice a37 ((ownC seed l c d k).length) c38] fun a44 w45 hB46 ho47 => ?_
   have S53 := S48.own hB46 ho47
   refine ⟨trivial, ?_⟩
   have ht1 : (Go.Au.text [115, 116, 101, 112] [ownC seed l c d k]).length < 10000 := text1 (by decide) (by rw [show (ownC seed l c d k).length = 32 from steps_len _ (start_len _ _ _)]; decide)
   have ht2 : (Go.Au.text [115, 116, 101, 112] [Go.Au.steps k x]).length < 10000 := text1 (by decide) (by rw [steps_len k hx]; decide)
   obtain ⟨G55, hl56, S54, r57⟩ := S53.stillRow 0 rfl
   have r58 := RdL.mk r57 (rs52.mono hl56)
   refine Cs g_aumbry_sha_Text ((text_ok S54.le (hT.mono (hl27.trans (hl50.trans hl56))) r58 ht1).mono ?_)
   rintro e w64 ⟨a59, c60, hc61, rfl, ho62, hB63⟩
   have S65 := S54.own hB63 ho62
   refine ⟨_, rfl, trivial, ?_⟩
   refine T_sliceAll rfl rfl rfl rfl rfl rfl rfl rfl ?_
   have hl67 : (Go.Au.steps k x).length = 32 := (steps_len _ hx)
   have r66 : Rd (hw w64) (.slice (some ⟨b4, 0, none⟩) 32 32) 32 1 ((Go.Au.steps k x).map bV) := Rd.of_blk (m := 32) (size := 1) (xs := (Go.Au.steps k x).map bV) (S65.blk 4 rfl) (hcell1 _) (by rw [List.length_map, hl67])
   refine Cs g_slices_Clone_byte_byte ((cloneL_ok r66 (hl67)).mono ?_)
   rintro e w73 ⟨a68, c69, hc70, rfl, ho71, hB72⟩
   have S74 := S65.own hB72 ho71
   refine ⟨_, rfl, trivial, ?_⟩
   obtain ⟨G80, hl81, S79, r82⟩ := S74.stillRow 0 rfl
   have rs83 : Rds G80 [.slice a68 ((Go.Au.steps k x).length) c69] [Go.Au.steps k x] := Rds.cons (Rd.canonB r82) (Rds.nil _)
   refine Ad (hone := by simp [Value.cells]; rfl) [.slice a68 ((Go.Au.steps k x).length) c69] fun a75 w76 hB77 ho78 => ?_
   have S84 := S79.own hB77 ho78
   refine ⟨trivial, ?_⟩
   obtain ⟨G86, hl87, S85, r88⟩ := S84.stillRow 0 rfl
   have r89 := RdL.mk r88 (rs83.mono hl87)
   refine Cs g_aumbry_sha_Text ((text_ok S85.le (hT.mono (hl27.trans (hl50.trans (hl56.trans (hl81.trans hl87))))) r89 ht2).mono ?_)
   rintro e w95 ⟨a90, c91, hc92, rfl, ho93, hB94⟩
   have S96 := S85.own hB94 ho93
   refine ⟨_, rfl, trivial, ?_⟩
   obtain ⟨G98, hl99, S97, r100⟩ := S96.stillRow 1 rfl
   obtain ⟨G102, hl103, S101, r104⟩ := S97.stillRow 0 rfl
   refine T_buildS (cells := #[.slice a59 ((Go.Au.text ([115, 116, 101, 112]) ([ownC seed l c d k])).length) c60, .slice a90 ((Go.Au.text ([115, 116, 101, 112]) ([Go.Au.steps k x])).length) c91]) rfl rfl rfl rfl rfl rfl rfl rfl rfl rfl (T_buildS (cells := (gV [[.slice a59 ((Go.Au.text ([115, 116, 101, 112]) ([ownC seed l c d k])).length) c60], [.slice a90 ((Go.Au.text ([115, 116, 101, 112]) ([Go.Au.steps k x])).length) c91], [.bool false], [.int .i64 0], [.int .i64 0], [.int .i64 0], (List.replicate 32 0).map bV] : Value).cells) rfl rfl rfl rfl rfl rfl (fill_g (L := [[.slice none 0 0], [.slice none 0 0], [.bool false], [.int .i64 0], [.int .i64 0], [.int .i64 0], (List.replicate 32 0).map bV]) (ns := [1, 1, 1, 1, 1, 1, 32]) (v := .agg #[.slice a59 ((Go.Au.text ([115, 116, 101, 112]) ([ownC seed l c d k])).length) c60, .slice a90 ((Go.Au.text ([115, 116, 101, 112]) ([Go.Au.steps k x])).length) c91]) (off := 0) (k := 2) rfl (Shp.cons rfl (Shp.cons rfl (Shp.cons rfl (Shp.cons rfl (Shp.cons rfl (Shp.cons rfl (Shp.cons (lenB List.length_replicate) Shp.nil))))))) 0 2 [[.slice a59 ((Go.Au.text ([115, 116, 101, 112]) ([ownC seed l c d k])).length) c60], [.slice a90 ((Go.Au.text ([115, 116, 101, 112]) ([Go.Au.steps k x])).length) c91]] rfl (by first | rfl | simp [hVs, *]) rfl rfl fill_gnil) rfl rfl rfl ?_)
   refine Ag (hl := by exact gV_size (L := [[.slice a59 ((Go.Au.text ([115, 116, 101, 112]) ([ownC seed l c d k])).length) c60], [.slice a90 ((Go.Au.text ([115, 116, 101, 112]) ([Go.Au.steps k x])).length) c91], [.bool false], [.int .i64 0], [.int .i64 0], [.int .i64 0], (List.replicate 32 0).map bV]) (ns := [1, 1, 1, 1, 1, 1, 32]) (Shp.cons rfl (Shp.cons rfl (Shp.cons rfl (Shp.cons rfl (Shp.cons rfl (Shp.cons rfl (Shp.cons (lenB List.length_replicate) Shp.nil))))))) rfl) (hl2 := by exact (gV_size (L := [[.slice a59 ((Go.Au.text ([115, 116, 101, 112]) ([ownC seed l c d k])).length) c60], [.slice a90 ((Go.Au.text ([115, 116, 101, 112]) ([Go.Au.steps k x])).length) c91], [.bool false], [.int .i64 0], [.int .i64 0], [.int .i64 0], (List.replicate 32 0).map bV]) (ns := [1, 1, 1, 1, 1, 1, 32]) (Shp.cons rfl (Shp.cons rfl (Shp.cons rfl (Shp.cons rfl (Shp.cons rfl (Shp.cons rfl (Shp.cons (lenB List.length_replicate) Shp.nil))))))) rfl).trans (gV_size (L := [[.slice fa F.A.length fc], [.slice fb F.B.length fd], [.bool F.k], [.int .i64 F.a], [.int .i64 F.c], [.int .i64 F.q], F.x.map bV]) (ns := [1, 1, 1, 1, 1, 1, 32]) (Shp.cons rfl (Shp.cons rfl (Shp.cons rfl (Shp.cons rfl (Shp.cons rfl (Shp.cons rfl (Shp.cons (lenB hFx) Shp.nil))))))) rfl).symm) (h1 := by exact gV_one (OneL.one rfl (OneL.one rfl (OneL.one rfl (OneL.one rfl (OneL.one rfl (OneL.one rfl (OneL.arr OneL.nil)))))))) 1 S101 fun w105 S106 => (T_nil ?_)
   refine W_tree (plan Tryz.prog) (.step 0 (.fork 1 2 (.step 2 (.step 3 (.step 4 (.step 5 .done)))) (.step 1 (.step 3 (.step 4 (.step 5 .done)))))) rfl (by kernel_rfl) trivial ?_
   have S107 := S106.drew
   refine TT_step rfl (Ai (hl := by exact hVs (steps_len _ (start_len _ _ _))) 0 S107 (T_nil ?_))
   refine TT_fork rfl rfl ?_ ?_
   ·refine Cs g_aumbry_wots_Step ((step_ok S107.le (hT.mono (hl27.trans (hl50.trans (hl56.trans (hl81.trans (hl87.trans (hl99.trans hl103))))))) (steps_len _ (start_len _ _ _))).mono ?_)
    rintro e w109 ⟨rfl, hB108⟩
    have S110 := S107.call hB108
    refine ⟨_, rfl, trivial, ?_⟩
    refine Nt rfl (Ai (hl := by exact hVs (steps_len _ hx)) 3 S110 ?_)
    refine Nt rfl (Cs g_aumbry_wots_Step ((step_ok S110.le (hT.mono (hl27.trans (hl50.trans (hl56.trans (hl81.trans (hl87.trans (hl99.trans hl103))))))) (steps_len _ hx)).mono ?_))
    rintro e w112 ⟨rfl, hB111⟩
    have S113 := S110.call hB111
    refine ⟨_, rfl, trivial, ?_⟩
    refine Nt rfl (Ag (hl := by exact hVs (step_len _)) (hl2 := by exact (hVs (step_len _)).trans (hVs (steps_len _ (start_len _ _ _))).symm) (h1 := by exact one_hA _) 0 S113 fun w114 S115 => ?_)
    refine Nt rfl (Ag (hl := by exact hVs (step_len _)) (hl2 := by exact (hVs (step_len _)).trans (hVs (steps_len _ hx)).symm) (h1 := by exact one_hA _) 3 S115 fun w116 S117 => (T_nil (TT_done (W_region ?_))))
    refine Pv ?_
    refine Ar ?_
    refine Pv (T_nil ?_)
    have HF := stepTo_ne (seed := seed) (l := l) (c := c) (d := d) (x := x) (k := k) (fun e => h33 e)
    exact ⟨15 - (d + (k + 1)), [(3, .int .i64 ((d + (k + 1) : Nat) : Int)), (9, .pointer (some ⟨b4, 0, none⟩)), (10, .pointer (some ⟨b7, 0, none⟩)), (11, .pointer (some ⟨b10, 0, none⟩)), (12, .pointer (some ⟨b21, 0, none⟩))], by omega, ⟨ciI, rfl, rfl, rfl, rfl, trivial⟩, k + 1, (fgB (Go.Au.stepT (ownC seed l c d k)) (Go.Au.stepT (Go.Au.steps k x))), a59, c60, a90, c91, G102, rfl, (by omega), (by exact HF), rfl, (hl27.trans (hl50.trans (hl56.trans (hl81.trans (hl87.trans (hl99.trans hl103)))))), S117, (r100.mono hl103), r104, List.length_replicate⟩
   refine Ai (hl := by exact hVs (steps_len _ hx)) 3 S107 ?_
   refine Nt rfl (Cs g_aumbry_wots_Step ((step_ok S107.le (hT.mono (hl27.trans (hl50.trans (hl56.trans (hl81.trans (hl87.trans (hl99.trans hl103))))))) (steps_len _ (start_len _ _ _))).mono ?_))
   rintro e w119 ⟨rfl, hB118⟩
   have S120 := S107.call hB118
   refine ⟨_, rfl, trivial, ?_⟩
   refine Nt rfl (Cs g_aumbry_wots_Step ((step_ok S120.le (hT.mono (hl27.trans (hl50.trans (hl56.trans (hl81.trans (hl87.trans (hl99.trans hl103))))))) (steps_len _ hx)).mono ?_))
   rintro e w122 ⟨rfl, hB121⟩
   have S123 := S120.call hB121
   refine ⟨_, rfl, trivial, ?_⟩
   refine Nt rfl (Ag (hl := by exact hVs (step_len _)) (hl2 := by exact (hVs (step_len _)).trans (hVs (steps_len _ (start_len _ _ _))).symm) (h1 := by exact one_hA _) 0 S123 fun w124 S125 => ?_)
   refine Nt rfl (Ag (hl := by exact hVs (step_len _)) (hl2 := by exact (hVs (step_len _)).trans (hVs (steps_len _ hx)).symm) (h1 := by exact one_hA _) 3 S125 fun w126 S127 => (T_nil (TT_done (W_region ?_))))
   refine Pv ?_
   refine Ar ?_
   refine Pv (T_nil ?_)
   have HF := stepTo_ne (seed := seed) (l := l) (c := c) (d := d) (x := x) (k := k) (fun e => h33 e)
   exact ⟨15 - (d + (k + 1)), [(3, .int .i64 ((d + (k + 1) : Nat) : Int)), (9, .pointer (some ⟨b4, 0, none⟩)), (10, .pointer (some ⟨b7, 0, none⟩)), (11, .pointer (some ⟨b10, 0, none⟩)), (12, .pointer (some ⟨b21, 0, none⟩))], by omega, ⟨ciI, rfl, rfl, rfl, rfl, trivial⟩, k + 1, (fgB (Go.Au.stepT (ownC seed l c d k)) (Go.Au.stepT (Go.Au.steps k x))), a59, c60, a90, c91, G102, rfl, (by omega), (by exact HF), rfl, (hl27.trans (hl50.trans (hl56.trans (hl81.trans (hl87.trans (hl99.trans hl103)))))), S127, (r100.mono hl103), r104, List.length_replicate⟩
  refine W_skip (W_tree (plan Tryz.prog) (.step 0 (.fork 1 2 (.step 2 (.step 3 (.step 4 (.step 5 .done)))) (.step 1 (.step 3 (.step 4 (.step 5 .done)))))) rfl (by kernel_rfl) trivial ?_)
  have S128 := S29.drew
  refine TT_step rfl (Ai (hl := by exact hVs (steps_len _ (start_len _ _ _))) 0 S128 (T_nil ?_))
  refine TT_fork rfl rfl ?_ ?_
  ·refine Cs g_aumbry_wots_Step ((step_ok S128.le (hT.mono hl27) (steps_len _ (start_len _ _ _))).mono ?_)
   rintro e w130 ⟨rfl, hB129⟩
   have S131 := S128.call hB129
   refine ⟨_, rfl, trivial, ?_⟩
   refine Nt rfl (Ai (hl := by exact hVs (steps_len _ hx)) 3 S131 ?_)
   refine Nt rfl (Cs g_aumbry_wots_Step ((step_ok S131.le (hT.mono hl27) (steps_len _ hx)).mono ?_))
   rintro e w133 ⟨rfl, hB132⟩
   have S134 := S131.call hB132
   refine ⟨_, rfl, trivial, ?_⟩
   refine Nt rfl (Ag (hl := by exact hVs (step_len _)) (hl2 := by exact (hVs (step_len _)).trans (hVs (steps_len _ (start_len _ _ _))).symm) (h1 := by exact one_hA _) 0 S134 fun w135 S136 => ?_)
   refine Nt rfl (Ag (hl := by exact hVs (step_len _)) (hl2 := by exact (hVs (step_len _)).trans (hVs (steps_len _ hx)).symm) (h1 := by exact one_hA _) 3 S136 fun w137 S138 => (T_nil (TT_done (W_region ?_))))
   refine Pv ?_
   refine Ar ?_
   refine Pv (T_nil ?_)
   have HF := (stepTo_eq (seed := seed) (l := l) (c := c) (d := d) (x := x) (k := k) h33).trans hst
   exact ⟨15 - (d + (k + 1)), [(3, .int .i64 ((d + (k + 1) : Nat) : Int)), (9, .pointer (some ⟨b4, 0, none⟩)), (10, .pointer (some ⟨b7, 0, none⟩)), (11, .pointer (some ⟨b10, 0, none⟩)), (12, .pointer (some ⟨b21, 0, none⟩))], by omega, ⟨ciI, rfl, rfl, rfl, rfl, trivial⟩, k + 1, F, fa, fc, fb, fd, G26, rfl, (by omega), (by exact HF), rfl, hl27, S138, hrA, hrB, hFx⟩
  refine Ai (hl := by exact hVs (steps_len _ hx)) 3 S128 ?_
  refine Nt rfl (Cs g_aumbry_wots_Step ((step_ok S128.le (hT.mono hl27) (steps_len _ (start_len _ _ _))).mono ?_))
  rintro e w140 ⟨rfl, hB139⟩
  have S141 := S128.call hB139
  refine ⟨_, rfl, trivial, ?_⟩
  refine Nt rfl (Cs g_aumbry_wots_Step ((step_ok S141.le (hT.mono hl27) (steps_len _ hx)).mono ?_))
  rintro e w143 ⟨rfl, hB142⟩
  have S144 := S141.call hB142
  refine ⟨_, rfl, trivial, ?_⟩
  refine Nt rfl (Ag (hl := by exact hVs (step_len _)) (hl2 := by exact (hVs (step_len _)).trans (hVs (steps_len _ (start_len _ _ _))).symm) (h1 := by exact one_hA _) 0 S144 fun w145 S146 => ?_)
  refine Nt rfl (Ag (hl := by exact hVs (step_len _)) (hl2 := by exact (hVs (step_len _)).trans (hVs (steps_len _ hx)).symm) (h1 := by exact one_hA _) 3 S146 fun w147 S148 => (T_nil (TT_done (W_region ?_))))
  refine Pv ?_
  refine Ar ?_
  refine Pv (T_nil ?_)
  have HF := (stepTo_eq (seed := seed) (l := l) (c := c) (d := d) (x := x) (k := k) h33).trans hst
  exact ⟨15 - (d + (k + 1)), [(3, .int .i64 ((d + (k + 1) : Nat) : Int)), (9, .pointer (some ⟨b4, 0, none⟩)), (10, .pointer (some ⟨b7, 0, none⟩)), (11, .pointer (some ⟨b10, 0, none⟩)), (12, .pointer (some ⟨b21, 0, none⟩))], by omega, ⟨ciI, rfl, rfl, rfl, rfl, trivial⟩, k + 1, F, fa, fc, fb, fd, G26, rfl, (by omega), (by exact HF), rfl, hl27, S148, hrA, hrB, hFx⟩
 refine W_exit (Wr (Ai (hl := by exact gV_size (L := [[.slice fa F.A.length fc], [.slice fb F.B.length fd], [.bool F.k], [.int .i64 F.a], [.int .i64 F.c], [.int .i64 F.q], F.x.map bV]) (ns := [1, 1, 1, 1, 1, 1, 32]) (Shp.cons rfl (Shp.cons rfl (Shp.cons rfl (Shp.cons rfl (Shp.cons rfl (Shp.cons rfl (Shp.cons (lenB hFx) Shp.nil))))))) rfl) 1 S29 ?_))
 refine Ag (hl := by exact gV_size (L := [[.slice fa F.A.length fc], [.slice fb F.B.length fd], [.bool F.k], [.int .i64 F.a], [.int .i64 F.c], [.int .i64 F.q], F.x.map bV]) (ns := [1, 1, 1, 1, 1, 1, 32]) (Shp.cons rfl (Shp.cons rfl (Shp.cons rfl (Shp.cons rfl (Shp.cons rfl (Shp.cons rfl (Shp.cons (lenB hFx) Shp.nil))))))) rfl) (hl2 := by exact gV_size (L := [[.slice fa F.A.length fc], [.slice fb F.B.length fd], [.bool F.k], [.int .i64 F.a], [.int .i64 F.c], [.int .i64 F.q], F.x.map bV]) (ns := [1, 1, 1, 1, 1, 1, 32]) (Shp.cons rfl (Shp.cons rfl (Shp.cons rfl (Shp.cons rfl (Shp.cons rfl (Shp.cons rfl (Shp.cons (lenB hFx) Shp.nil))))))) rfl) (h1 := by exact gV_one (OneL.one rfl (OneL.one rfl (OneL.one rfl (OneL.one rfl (OneL.one rfl (OneL.one rfl (OneL.arr OneL.nil)))))))) 2 S29 fun w149 S150 => (T_nil (W_ret ?_))
 refine ⟨_, ⟨_, _, _, rfl, rfl, run_loadVarA rfl rfl (gV_size (L := [[.slice fa F.A.length fc], [.slice fb F.B.length fd], [.bool F.k], [.int .i64 F.a], [.int .i64 F.c], [.int .i64 F.q], F.x.map bV]) (ns := [1, 1, 1, 1, 1, 1, 32]) (Shp.cons rfl (Shp.cons rfl (Shp.cons rfl (Shp.cons rfl (Shp.cons rfl (Shp.cons rfl (Shp.cons (lenB hFx) Shp.nil))))))) rfl) (S150.cells 2 rfl), rfl⟩, ?_⟩
 have hF : stepF seed l c d x = F := by rw [← hst]; unfold stepF; rw [show 15 - d = k by omega]
 exact fg_end1 hF hrA hrB S150.fin S150.below

end Go.Proofs.YtfcejolipdcoaaaGreatDoor
