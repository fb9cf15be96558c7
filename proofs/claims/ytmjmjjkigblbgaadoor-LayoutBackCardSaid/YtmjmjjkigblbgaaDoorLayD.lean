/- Rows of hashes out of bytes; rows from the beginning. -/
import Derived.Test.YtmjmjjkigblbgaaDoorLaw14
import Derived.Test.YtmjmjjkigblbgaaDoorTreeB
import Derived.Test.YtmjmjjkigblbgaaDoorAuDoor
import Derived.Test.YtmjmjjkigblbgaaDoorFDoor
set_option linter.unusedVariables false
set_option linter.unusedSimpArgs false
set_option maxRecDepth 8192


namespace Go.Proofs.YtmjmjjkigblbgaaDoor
open Go Go.F Go.RowKit
open Go.Au

theorem hs_some {H : Hp} {w w' : World} {l : List (List UInt8)} {a : Option Addr} {n c : Nat} {x y : Bool} (hn : l.length = n) (hc : n ≤ c) (hx : x = y) (r : RdH (F.ext H w.heap.size w') (.slice a n c) 32 l) (hB : Below w.heap.size w w') :
  ∃ a' c', l.length ≤ c' ∧ Ending.returned (.tuple #[.slice a n c, .bool x]) = .returned (.tuple #[.slice a' l.length c', .bool y]) ∧ RdH (F.ext H w.heap.size w') (.slice a' l.length c') 32 l ∧ Below w.heap.size w w' := by
 subst hn; subst hx
 exact ⟨a, c, hc, rfl, r, hB⟩
theorem ts_none {H : Hp} {w w' : World} {n : Nat} {b : List UInt8} (h : ¬ NtOks n b) (hB : Below w.heap.size w w') :
  ∃ a c a' c', Ending.returned (.tuple #[.slice none 0 0, .slice none 0 0, .bool false]) = .returned (.tuple #[.slice a (ntTk n b).length c, .slice a' (ntTr n b).length c', .bool (decide (NtOks n b))]) ∧
   RdL (F.ext H w.heap.size w') (.slice a (ntTk n b).length c) (ntTk n b) ∧ Rd (F.ext H w.heap.size w') (.slice a' (ntTr n b).length c') (ntTr n b).length 1 ((ntTr n b).map bV) ∧ Below w.heap.size w w' := by
 rw [ntTk_no h, ntTr_no h, decide_eq_false h]
 exact ⟨none, 0, none, 0, rfl, nilS _, Rd.nil _ _, hB⟩
theorem ts_some {H : Hp} {w w' : World} {n : Nat} {b : List UInt8} (h : NtOks n b) {a a' : Option Addr} {c c' : Nat} (r : RdL (F.ext H w.heap.size w') (.slice a n c) (ntRows n b)) (r2 : Rd (F.ext H w.heap.size w') (.slice a' (ntRest n b).length c') (ntRest n b).length 1 ((ntRest n b).map bV)) (hB : Below w.heap.size w w') :
  ∃ a1 c1 a1' c1', Ending.returned (.tuple #[.slice a n c, .slice a' (ntRest n b).length c', .bool true]) = .returned (.tuple #[.slice a1 (ntTk n b).length c1, .slice a1' (ntTr n b).length c1', .bool (decide (NtOks n b))]) ∧
   RdL (F.ext H w.heap.size w') (.slice a1 (ntTk n b).length c1) (ntTk n b) ∧ Rd (F.ext H w.heap.size w') (.slice a1' (ntTr n b).length c1') (ntTr n b).length 1 ((ntTr n b).map bV) ∧ Below w.heap.size w w' := by
 rw [ntTk_yes h, ntTr_yes h, decide_eq_true h, ntRows_len]
 exact ⟨a, c, a', c', rfl, r, r2, hB⟩
theorem rowL_ok {H : Hp} {w : World} (hH : H.le (hw w)) {l : List (List UInt8)} {aa0 : Option Addr} {nn0 cc0 : Nat} (hv : RdH H (.slice aa0 nn0 cc0) 32 l) (hb : l.length ≤ 100) :
  Calls Tryd.prog 56 #[.slice aa0 nn0 cc0] w fun e w' => ∃ a c, (flatTo [] l l.length).length ≤ c ∧ e = .returned (.slice a (flatTo [] l l.length).length c) ∧ rowZ w' w.heap.size 5 1 (.slice a (flatTo [] l l.length).length c) (flatTo [] l l.length).length ((flatTo [] l l.length).map bV) ∧ Below w.heap.size w w' := by
 obtain rfl : nn0 = l.length := hv.len
 have hvcap : l.length ≤ cc0 := hv.2.capOf
 refine enter1 _ Tryd.func56 rfl Tryd.ntmps56 Tryd.results56 rfl ?_
 have S0 := St.start w hH
 refine Wr (Pv (Nr ?_))
 refine Pv (T_nil (W_seq (Wr ?_)))
 iterate 3 refine Pv ?_
 refine T_nil (W_block ?_)
 have S1 := S0.nilRow 5 1
 refine W_loop (fun M ρ w' => ∃ (k : Nat) (a4 : Option Addr) (c5 : Nat) (G2 : Hp), M = l.length - k ∧ k ≤ l.length ∧ ρ = [(3, .slice a4 ((flatTo [] l k).length) c5), (6, .slice aa0 l.length cc0), (7, .int .i64 ((l.length : Nat) : Int)), (8, .int .i64 (k : Int))] ∧ H.le G2 ∧ St w H G2 [.row 5 1 (.slice a4 ((flatTo [] l k).length) c5) ((flatTo [] l k).length) ((flatTo [] l k).map bV)] w' ∧ (flatTo [] l k).length ≤ c5)
  (l.length - 0) [(3, .slice none 0 0), (6, .slice aa0 l.length cc0), (7, .int .i64 ((l.length : Nat) : Int)), (8, .int .i64 ((0 : Nat) : Int))] ⟨rfl, rfl, ciI, ciI, trivial⟩ ⟨0, none, 0, H, rfl, (by omega), rfl, Hp.le.refl _, S1, (Nat.le_refl _)⟩ ?_
 rintro M ρ w7 ⟨k, a4, c5, G2, rfl, hp9, rfl, hl3, S8, hc6⟩
 refine Wr (Pv (T_nil (W_seq ?_)))
 refine Aa (fun h10 => ?_) (fun h10 => ?_)
 ·refine W_skip (W_seq (W_block (Wr (Ag k (hv.mono hl3).2 fun b11 o12 hc13 => ?_))))
  have hc14 := cells_h (hv.mono hl3).1 k (by omega) hc13
  have hl15 := len_h (hv.mono hl3).1 k (by omega)
  refine T_loadGA _ S8 hc14 rfl rfl rfl rfl rfl rfl rfl rfl (hVs hl15) (Ad S8 fun b16 w17 S18 => ?_)
  refine Ah (hl := hVs hl15) (hl2 := hVs hl15) 0 S18 (one_hA _) fun w19 S20 => (T_nil (W_region ?_))
  refine Pv ?_
  obtain ⟨G22, hl23, S21, r24⟩ := S20.stillBlk 0 rfl
  refine T_sliceAll rfl rfl rfl rfl rfl rfl rfl rfl ?_
  have r25 := Rd.of_blk (m := 32) (size := 1) (xs := (l.getD k []).map bV) r24 (hcell1 _) (by rw [List.length_map, hl15])
  have hD26 : (flatTo [] l k ++ l.getD k []) = flatTo [] l (k + 1) := rfl
  have hfl : (flatTo [] l (k + 1)).length = (flatTo [] l k).length + (l.getD k []).length := List.length_append
  refine Af (hn' := by first | rfl | (simp; done) | (simp; omega) | omega) (hx' := by rw [← hD26]; simp) (h63 := by unfold maxLen; have hfb := flatT_bd (b := []) (q := l) (Nat.zero_le _) hb hv.1 (show k + 1 ≤ l.length by omega); omega) (hbytes := by show _ * 1 ≤ _; have hfb := flatT_bd (b := []) (q := l) (Nat.zero_le _) hb hv.1 (show k + 1 ≤ l.length by omega); omega) 0 ((flatTo [] l (k + 1)).length) ((flatTo [] l (k + 1)).map bV) S21 (r25.mono S21.le) (one_bV _) fun a27 c28 w29 hc30 S31 => ?_
  refine Pv (T_nil (W_region ?_))
  refine Ar ?_
  refine Pv (T_nil ?_)
  exact ⟨l.length - (k + 1), [(3, .slice a27 ((flatTo [] l (k + 1)).length) c28), (6, .slice aa0 l.length cc0), (7, .int .i64 ((l.length : Nat) : Int)), (8, .int .i64 ((k + 1 : Nat) : Int))], by omega, ⟨rfl, rfl, ciI, ciI, trivial⟩, k + 1, a27, c28, G22, rfl, (by omega), rfl, (hl3.trans hl23), S31, hc30⟩
 refine W_exit (Wr ?_)
 iterate 2 refine Pv ?_
 refine T_nil (W_ret ?_)
 refine ⟨_, ⟨_, _, rfl, rfl, rfl⟩, ?_⟩
 obtain rfl : k = l.length := by omega
 exact ⟨_, _, hc6, rfl, S8.row 0 rfl, S8.below⟩


theorem hashesL_ok {H : Hp} {w : World} (hH : H.le (hw w)) {b : List UInt8} {aa0 : Option Addr} {nn0 cc0 : Nat} (hv : Rd H (.slice aa0 nn0 cc0) nn0 1 (b.map bV)) (hb : b.length ≤ 100000) :
  Calls Tryd.prog 61 #[.slice aa0 nn0 cc0] w fun e w' => ∃ a c, (Go.Au.chunks b (b.length / 32)).length ≤ c ∧ e = .returned (.tuple #[.slice a (Go.Au.chunks b (b.length / 32)).length c, .bool (decide (b.length % 32 = 0))]) ∧ RdH (F.ext H w.heap.size w') (.slice a (Go.Au.chunks b (b.length / 32)).length c) 32 (Go.Au.chunks b (b.length / 32)) ∧ Below w.heap.size w w' := by
 obtain rfl : nn0 = b.length := hv.lenB
 have hvcap : b.length ≤ cc0 := hv.capOf
 refine enter1 _ Tryd.func61 rfl Tryd.ntmps61 Tryd.results61 rfl ?_
 have S0 := St.start w hH
 refine Wr ?_
 iterate 2 refine Pv ?_
 refine Nr (Pv (T_nil (W_seq (W_block ?_))))
 have S1 := S0.nilRow 23 32
 refine W_loop (fun M ρ w' => ∃ (k : Nat) (a4 : Option Addr) (nn5 c6 : Nat) (a8 : Option Addr) (c9 : Nat) (G2 : Hp), M = (b.length / 32) - k ∧ k ≤ (b.length / 32) ∧ ρ = [(0, .slice a4 nn5 c6), (4, .slice a8 k c9)] ∧ H.le G2 ∧ St w H G2 [.row 23 32 (.slice a8 k c9) k (hcells (Go.Au.chunks b k))] w' ∧ Rd G2 (.slice a4 nn5 c6) nn5 1 ((b.drop (32 * k)).map bV) ∧ (∀ y ∈ Go.Au.chunks b k, y.length = 32) ∧ k ≤ c9)
  ((b.length / 32) - 0) [(0, .slice aa0 b.length cc0), (4, .slice none 0 0)] ⟨rfl, rfl, trivial⟩ ⟨0, _, _, _, none, 0, H, rfl, (by exact Nat.zero_le _), rfl, Hp.le.refl _, S1, hv, (fun _ h => by cases h), (Nat.le_refl _)⟩ ?_
 rintro M ρ w12 ⟨k, a4, nn5, c6, a8, c9, G2, rfl, hp14, rfl, hl3, S13, hf7, hh11, hc10⟩
 obtain rfl : nn5 = (b.drop (32 * k)).length := hf7.lenB
 have hdl : (b.drop (32 * k)).length = b.length - 32 * k := List.length_drop
 refine W_seq (Wr ?_)
 iterate 3 refine Pv ?_
 refine T_nil (Aa (fun h15 => ?_) (fun h15 => ?_))
 ·refine W_skip (W_block (Wr ?_))
  iterate 2 refine Pv ?_
  refine T_sliceR 0 32 hf7 rfl rfl rfl rfl rfl rfl rfl rfl rfl rfl (bound_of (by omega)) rfl (by omega) (by omega) fun a16 c17 hc18 r19 => ?_
  have r20 := Rd.cutB r19
  have hb24 := (r20).lenB
  have hl25 := take_len32 (l := (((b.drop (32 * k)).drop 0).take (32 - 0))) (by omega)
  refine T_s2apR r20 rfl rfl rfl rfl rfl rfl (by decide) (by omega) fun b21 o22 hc23 => ?_
  refine T_loadGA _ S13 hc23 rfl rfl rfl rfl rfl rfl rfl rfl (hVs hl25) (T_re (v' := hV ((b.drop (32 * k)).take 32)) (congrArg (fun q => hV q) (take3232 _)) (T_litS (hcells [(b.drop (32 * k)).take 32]) rfl rfl rfl rfl rfl rfl rfl rfl rfl rfl rfl rfl rfl (one_h (take_len32 (by omega))) (by simp [hcells, hV, Value.cells]) fun a26 w27 hB28 ho29 => ?_))
  have S30 := S13.own hB28 ho29
  refine ⟨trivial, ?_⟩
  have hD31 : (Go.Au.chunks b k ++ [(b.drop (32 * k)).take 32]) = Go.Au.chunks b (k + 1) := (chunks_snoc _ _)
  refine Af (hn' := by first | rfl | (simp; done) | (simp; omega) | omega) (hx' := by rw [← hD31]; simp [hcells_append, hcells]) (hbytes := by show _ * 32 ≤ _; omega) 1 (k + 1) (hcells (Go.Au.chunks b (k + 1))) S30 (S30.rd 0 rfl) (one_hcells _) fun a32 c33 w34 hc35 S36 => ?_
  have hh37 : ∀ y ∈ Go.Au.chunks b (k + 1), y.length = 32 := by rw [← hD31]; exact (all_app hh11 (all_h1 (take_len32 (by omega))))
  refine Pv (T_nil (W_region ?_))
  refine Pv ?_
  refine T_sliceR 32 ((b.drop (32 * k)).length) hf7 rfl rfl rfl rfl rfl rfl rfl rfl rfl rfl (by first | rfl | exact congrArg some (by omega)) (bound_of (by omega)) (by omega) (by omega) fun a38 c39 hc40 r41 => ?_
  have r42 := Rd.cutB r41
  have r43 : Rd G2 (.slice a38 ((b.drop (32 * k)).length - 32) c39) ((b.drop (32 * k)).length - 32) 1 ((b.drop (32 * (k + 1))).map bV) := by rw [drop_step] at r42; exact r42
  refine Pv (T_nil ?_)
  have S44 := S36.drop 0
  exact ⟨(b.length / 32) - (k + 1), [(0, .slice a38 ((b.drop (32 * k)).length - 32) c39), (4, .slice a32 (k + 1) c33)], by omega, ⟨rfl, rfl, trivial⟩, k + 1, _, _, _, a32, c33, G2, rfl, (by omega), rfl, hl3, S44, r43, hh37, hc35⟩
 refine W_exit (Wr ?_)
 iterate 6 refine Pv ?_
 refine T_nil (W_ret ?_)
 refine ⟨_, ⟨_, _, rfl, rfl, ⟨_, _, rfl, rfl, rfl⟩⟩, ?_⟩
 obtain ⟨G46, hl47, S45, r48⟩ := S13.stillRow 0 rfl
 have r49 := RdH.mk hh11 (by decide) r48
 obtain rfl : k = (b.length / 32) := by omega
 exact hs_some (chunks_len _ _) hc10 (by have hdl := List.length_drop (i := 32 * (b.length / 32)) (l := b); exact decide_eq_decide.2 (by omega)) ((r49).mono S45.fin) S45.below


theorem takes_ok {H : Hp} {w : World} (hH : H.le (hw w)) {b : List UInt8} {aa0 : Option Addr} {nn0 cc0 : Nat} (hv : Rd H (.slice aa0 nn0 cc0) nn0 1 (b.map bV)) (n : Nat) (hn : n ≤ 100) (hb : b.length ≤ 1000000) :
  Calls Tryd.prog 60 #[.slice aa0 nn0 cc0, .int .i64 ((n : Nat) : Int)] w fun e w' => ∃ a c a' c', e = .returned (.tuple #[.slice a (ntTk n b).length c, .slice a' (ntTr n b).length c', .bool (decide (NtOks n b))]) ∧ RdL (F.ext H w.heap.size w') (.slice a (ntTk n b).length c) (ntTk n b) ∧ Rd (F.ext H w.heap.size w') (.slice a' (ntTr n b).length c') (ntTr n b).length 1 ((ntTr n b).map bV) ∧ Below w.heap.size w w' := by
 obtain rfl : nn0 = b.length := hv.lenB
 have hvcap : b.length ≤ cc0 := hv.capOf
 refine enter2 _ Tryd.func60 rfl Tryd.ntmps60 Tryd.results60 rfl ?_
 have S0 := St.start w hH
 refine Wr ?_
 iterate 3 refine Pv ?_
 refine Nr (Pv (T_nil (W_seq (Wr ?_))))
 iterate 2 refine Pv ?_
 refine T_nil (W_block ?_)
 have S1 := S0.nilRow 26 1
 have rs2 := Rds.nil H
 refine W_loop (fun M ρ w' => ∃ (k : Nat) (a5 : Option Addr) (nn6 c7 : Nat) (a9 : Option Addr) (c10 : Nat) (hs12 : List Value) (G3 : Hp), M = n - k ∧ k ≤ n ∧ NtOks k b ∧ ρ = [(0, .slice a5 nn6 c7), (7, .slice a9 k c10), (11, .int .i64 ((n : Nat) : Int)), (12, .int .i64 (k : Int))] ∧ H.le G3 ∧ St w H G3 [.row 26 1 (.slice a9 k c10) k hs12] w' ∧ Rd G3 (.slice a5 nn6 c7) nn6 1 ((ntRest k b).map bV) ∧ Rds G3 hs12 (ntRows k b) ∧ k ≤ c10)
  (n - 0) [(0, .slice aa0 b.length cc0), (7, .slice none 0 0), (11, .int .i64 ((n : Nat) : Int)), (12, .int .i64 ((0 : Nat) : Int))] ⟨rfl, rfl, ciI, ciI, trivial⟩ ⟨0, _, _, _, none, 0, _, H, rfl, (by exact Nat.zero_le _), (by exact NtOks_zero _), rfl, Hp.le.refl _, S1, hv, rs2, (Nat.le_refl _)⟩ ?_
 rintro M ρ w14 ⟨k, a5, nn6, c7, a9, c10, hs12, G3, rfl, hp16, hp17, rfl, hl4, S15, hf8, rs13, hc11⟩
 obtain rfl : nn6 = (ntRest k b).length := hf8.lenB
 have hrl := ntRest_le b k
 refine Wr (Pv (T_nil (W_seq ?_)))
 refine Aa (fun h18 => ?_) (fun h18 => ?_)
 ·refine W_skip (W_seq (W_block (Wr (Pv ?_))))
  refine Cs g_aumbry_code_TakeNet ((takeNet_ok S15.le hf8 (by omega)).mono ?_)
  rintro e w26 ⟨a19, c20, a21, c22, rfl, r23, r24, hB25⟩
  obtain ⟨G28, eG30⟩ : ∃ G, G = F.ext G3 w14.heap.size w26 := ⟨_, rfl⟩
  obtain ⟨hl29, S27⟩ := S15.ext hB25
  rw [← eG30] at hl29 S27 r23 r24
  refine ⟨_, rfl, trivial, ?_⟩
  have hl31 := tn1_le (ntRest k b)
  have hl32 := tn2_le (ntRest k b)
  iterate 7 refine Pv ?_
  refine T_nil (W_seq (Wr ?_))
  iterate 2 refine Pv ?_
  refine T_nil (W_cond_not rfl (fun h33 => ?_) (fun h33 => ?_))
  ·refine Wr ?_
   iterate 3 refine Pv ?_
   refine T_nil (W_ret ?_)
   refine ⟨_, ⟨_, _, rfl, rfl, ⟨_, _, rfl, rfl, ⟨_, _, rfl, rfl, rfl⟩⟩⟩, ?_⟩
   exact ts_none (fun hq => h33 (hq k (by omega))) S27.below
  refine W_skip (W_region ?_)
  have HN := h33
  iterate 2 refine Pv ?_
  have rs38 : Rds G28 [.slice a19 (tn1 (ntRest k b)).length c20] [(tn1 (ntRest k b))] := Rds.cons (Rd.canonB r23) (Rds.nil _)
  refine Ae (hone := by simp [Value.cells]; rfl) [.slice a19 (tn1 (ntRest k b)).length c20] fun a34 w35 hB36 ho37 => ?_
  have S39 := S27.own hB36 ho37
  refine ⟨trivial, ?_⟩
  have hD40 : (ntRows k b ++ [(tn1 (ntRest k b))]) = ntRows (k + 1) b := (ntRows_snoc k b)
  refine Af (hn' := by first | rfl | (simp; done) | (simp; omega) | omega) (hx' := rfl) (hbytes := by show _ * 24 ≤ _; omega) 1 (k + 1) _ S39 (S39.rd 0 rfl) rs38.one fun a41 c42 w43 hc44 S45 => ?_
  have rs46 := Rds.append (rs13.mono hl29) rs38
  rw [hD40] at rs46
  iterate 3 refine Pv ?_
  refine T_nil (W_region (Ar ?_))
  refine Pv (T_nil ?_)
  have S47 := S45.drop 0
  exact ⟨n - (k + 1), [(0, .slice a21 (tn2 (ntRest k b)).length c22), (7, .slice a41 (k + 1) c42), (11, .int .i64 ((n : Nat) : Int)), (12, .int .i64 ((k + 1 : Nat) : Int))], by omega, ⟨rfl, rfl, ciI, ciI, trivial⟩, k + 1, _, _, _, a41, c42, _, G28, rfl, (by omega), (by exact NtOks_succ (by assumption) HN), rfl, (hl4.trans hl29), S47, r24, rs46, hc44⟩
 refine W_exit (Wr ?_)
 iterate 5 refine Pv ?_
 refine T_nil (W_ret ?_)
 refine ⟨_, ⟨_, _, rfl, rfl, ⟨_, _, rfl, rfl, ⟨_, _, rfl, rfl, rfl⟩⟩⟩, ?_⟩
 obtain ⟨G49, hl50, S48, r51⟩ := S15.stillRow 0 rfl
 have r52 := RdL.mk r51 (rs13.mono hl50)
 obtain rfl : k = n := by omega
 exact ts_some (by assumption) ((r52).mono S48.fin) (((hf8.mono hl50)).mono S48.fin) S48.below

end Go.Proofs.YtmjmjjkigblbgaaDoor
