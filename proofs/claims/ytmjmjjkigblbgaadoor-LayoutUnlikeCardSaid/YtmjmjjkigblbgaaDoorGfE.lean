/- The document's padding and encoding. -/
import Derived.Test.YtmjmjjkigblbgaaDoorGfD
set_option linter.unusedVariables false
set_option linter.unusedSimpArgs false
set_option maxRecDepth 8192
namespace Go.Proofs.YtmjmjjkigblbgaaDoor
open Go Go.F Go.RowKit
open Go.Au

theorem pad_z {n k : Nat} (h : 0 < k) : (n + (k - n % k) % k) % k = 0 := by
 rcases Nat.eq_zero_or_pos (n % k) with h0 | h0
 ·rw [h0, Nat.sub_zero, Nat.mod_self, Nat.add_zero]; exact h0
 ·have h1 := Nat.mod_lt n h
  rw [Nat.mod_eq_of_lt (show k - n % k < k by omega)]
  have h2 := Nat.div_add_mod n k
  rw [show n + (k - n % k) = k * (n / k) + k by omega, Nat.add_mod_right, Nat.mul_mod_right]
theorem all_snoc {R : List (List UInt8)} {r : List UInt8} {q : Nat} (h : ∀ x ∈ R, x.length = q) (h1 : r.length = q) : ∀ x ∈ R ++ [r], x.length = q := by
 intro x hx
 rcases List.mem_append.1 hx with h2 | h2
 ·exact h x h2
 ·rw [List.mem_singleton.1 h2]; exact h1
theorem rpad_ok {H : Hp} {w : World} (hH : H.le (hw w)) {l : List UInt8} {aa0 : Option Addr} {nn0 cc0 : Nat} (hv : Rd H (.slice aa0 nn0 cc0) nn0 1 (l.map bV)) (k : Nat) (hl : l.length ≤ 100000) (hk : 1 ≤ k ∧ k ≤ 16) :
  Calls Tryd.prog 116 #[.slice aa0 nn0 cc0, .int .i64 ((k : Nat) : Int)] w fun e w' => ∃ a c m, e = .returned (.slice a (l.length + m) c) ∧ l.length + m ≤ c ∧ rowZ w' w.heap.size 5 1 (.slice a (l.length + m) c) (l.length + m) ((l ++ List.replicate m (0 : UInt8)).map bV) ∧ (l.length + m) % k = 0 ∧ m < k ∧ Below w.heap.size w w' := by
 obtain rfl : nn0 = l.length := hv.lenB
 have hvcap : l.length ≤ cc0 := hv.capOf
 have hpz := pad_z (n := l.length) (k := k) (by omega)
 have hpk : ((k - l.length % k) % k) < k := Nat.mod_lt _ (by omega)
 refine enter2 _ Tryd.func116 rfl Tryd.ntmps116 Tryd.results116 rfl ?_
 have S0 := St.start w hH
 refine Wr (Pv (Nr ?_))
 iterate 2 refine Pv ?_
 refine T_re (v' := .int .i64 ((k : Nat) : Int)) (congrArg (Value.int .i64) (by omega)) ?_
 refine Pv (Nr ?_)
 refine Pv ?_
 have S1 := S0.nilRow 5 1
 have hD2 : l = (l ++ List.replicate 0 (0 : UInt8)) := (by simp)
 refine Ag (h1 := by exact one_bV _) (hn' := by first | rfl | (simp; done) | (simp; omega) | omega) (hx' := by rw [← hD2]; simp) (hbytes := by show _ * 1 ≤ _; omega) 0 (l.length + 0) ((l ++ List.replicate 0 (0 : UInt8)).map bV) S1 (hv.mono S1.le) fun a3 c4 w5 hc6 S7 => ?_
 refine Pv (T_nil (W_seq (W_block ?_)))
 refine W_loop (fun M ρ w' => ∃ (m : Nat) (a10 : Option Addr) (c11 : Nat) (G8 : Hp), M = ((k - l.length % k) % k) - m ∧ m ≤ ((k - l.length % k) % k) ∧ ρ = [(1, .int .i64 ((k : Nat) : Int)), (5, .slice a10 (l.length + m) c11)] ∧ H.le G8 ∧ St w H G8 [.row 5 1 (.slice a10 (l.length + m) c11) (l.length + m) ((l ++ List.replicate m (0 : UInt8)).map bV)] w' ∧ (l.length + m) ≤ c11)
  (((k - l.length % k) % k) - 0) [(1, .int .i64 ((k : Nat) : Int)), (5, .slice a3 (l.length + 0) c4)] ⟨ciI, rfl, trivial⟩ ⟨0, a3, c4, H, rfl, (by exact Nat.zero_le _), rfl, Hp.le.refl _, S7, hc6⟩ ?_
 rintro M ρ w13 ⟨m, a10, c11, G8, rfl, hp15, rfl, hl9, S14, hc12⟩
 refine W_seq (Wr ?_)
 iterate 3 refine Pv ?_
 refine T_rem rfl rfl rfl rfl rfl rfl (by omega) ?_
 refine Pv (T_nil ?_)
 refine W_cond_not rfl (fun h16 => ?_) (fun h16 => ?_)
 ·refine W_skip (W_block (W_region (Pv ?_)))
  refine Af (hone := by simp [Value.cells]; rfl) ([(0 : UInt8)].map bV) fun a17 w18 hB19 ho20 => ?_
  have S21 := S14.own hB19 ho20
  refine ⟨trivial, ?_⟩
  have hD22 : ((l ++ List.replicate m (0 : UInt8)) ++ [(0 : UInt8)]) = (l ++ List.replicate (m + 1) (0 : UInt8)) := (by rw [List.append_assoc, ← List.replicate_succ'])
  refine Ag (h1 := by exact one_bV _) (hn' := by first | rfl | (simp; done) | (simp; omega) | omega) (hx' := by rw [← hD22]; simp) (hbytes := by show _ * 1 ≤ _; omega) 1 (l.length + (m + 1)) ((l ++ List.replicate (m + 1) (0 : UInt8)).map bV) S21 (S21.rd 0 rfl) fun a23 c24 w25 hc26 S27 => ?_
  refine Pv (T_nil ?_)
  have HNE : m ≠ ((k - l.length % k) % k) := fun e => h16 (by rw [e]; omega)
  have S28 := S27.drop 0
  exact ⟨((k - l.length % k) % k) - (m + 1), [(1, .int .i64 ((k : Nat) : Int)), (5, .slice a23 (l.length + (m + 1)) c24)], by omega, ⟨ciI, rfl, trivial⟩, m + 1, a23, c24, G8, rfl, (by omega), rfl, hl9, S28, hc26⟩
 refine W_exit (Wr ?_)
 iterate 2 refine Pv ?_
 refine T_nil (W_ret ?_)
 refine ⟨_, ⟨_, _, rfl, rfl, rfl⟩, ?_⟩
 exact ⟨_, _, m, rfl, hc12, S14.row 0 rfl, by omega, by omega, S14.below⟩


set_option maxHeartbeats 1000000 in
theorem rencode_ok {H : Hp} {w : World} (hH : H.le (hw w)) {l : List UInt8} {aa0 : Option Addr} {nn0 cc0 : Nat} (hv : Rd H (.slice aa0 nn0 cc0) nn0 1 (l.map bV)) (k n : Nat) (hl : l.length ≤ 100000) (hk : 1 ≤ k ∧ k ≤ 5) (hn : k ≤ n ∧ n ≤ 16) :
  Calls Tryd.prog 102 #[.slice aa0 nn0 cc0, .int .i64 ((k : Nat) : Int), .int .i64 ((n : Nat) : Int)] w fun e w' => ∃ a c q m D, e = .returned (.slice a n c) ∧ RdL (F.ext H w.heap.size w') (.slice a n c) D ∧ D.length = n ∧ (∀ x ∈ D, x.length = q) ∧ k * q = l.length + m ∧ m < k ∧ Below w.heap.size w w' := by
 obtain rfl : nn0 = l.length := hv.lenB
 have hvcap : l.length ≤ cc0 := hv.capOf
 have hml := prod_len (vand k n) (invTo (vand k k) k k) k n
 have hmx := prod_el (vand k n) (invTo (vand k k) k k) k n
 refine enter3 _ Tryd.func102 rfl Tryd.ntmps102 Tryd.results102 rfl ?_
 have S0 := St.start w hH
 refine Wr (Pv (Nr ?_))
 iterate 2 refine Pv ?_
 refine Cs g_aumbry_aumbryref04_Pad ((rpad_ok S0.le hv k (by omega) (by omega)).mono ?_)
 rintro e w9 ⟨a1, c2, m, rfl, hc4, ho5, hz, hm, hB8⟩
 have S10 := S0.own hB8 ho5
 refine ⟨_, rfl, trivial, ?_⟩
 obtain ⟨q, hqe⟩ : ∃ q, q = (l.length + m) / k := ⟨_, rfl⟩
 have hqk : k * q = l.length + m := by rw [hqe]; exact Nat.mul_div_cancel' (Nat.dvd_of_mod_eq_zero hz)
 have hq1 : q ≤ k * q := Nat.le_mul_of_pos_left q (by omega)
 refine Pv (Nr ?_)
 iterate 3 refine Pv ?_
 refine T_quo rfl rfl rfl rfl rfl rfl (by omega) ?_
 refine T_re (v' := .int .i64 ((q : Nat) : Int)) (congrArg (Value.int .i64) (by rw [hqe]; exact (Int.natCast_ediv _ _).symm)) ?_
 refine Pv (Nr ?_)
 iterate 2 refine Pv ?_
 refine Cs g_aumbry_aumbryref04_Matrix ((rmatrix_ok S10.le k n (by omega) (by omega)).mono ?_)
 rintro e w15 ⟨a11, c12, rfl, r13, hB14⟩
 obtain ⟨G17, eG19⟩ : ∃ G, G = F.ext H w9.heap.size w15 := ⟨_, rfl⟩
 obtain ⟨hl18, S16⟩ := S10.ext hB14
 rw [← eG19] at hl18 S16 r13
 refine ⟨_, rfl, trivial, ?_⟩
 refine Pv (Nr ?_)
 refine Pv (T_nil (W_seq (Wr ?_)))
 refine Pv (T_nil (W_block ?_))
 obtain ⟨G21, hl22, S20, r23⟩ := S16.stillRow 0 rfl
 have S24 := S20.nilRow 26 1
 have rs25 := Rds.nil G21
 refine W_loop (fun M ρ w' => ∃ (j : Nat) (R : List (List UInt8)) (a28 : Option Addr) (c29 : Nat) (hs31 : List Value) (G26 : Hp), M = n - j ∧ j ≤ n ∧ R.length = j ∧ ((∀ x ∈ R, x.length = q)) ∧ ρ = [(1, .int .i64 ((k : Nat) : Int)), (2, .int .i64 ((n : Nat) : Int)), (7, .slice a1 (l.length + m) c2), (8, .int .i64 ((q : Nat) : Int)), (9, .slice a11 n c12), (10, .slice a28 j c29), (11, .int .i64 (j : Int))] ∧ G21.le G26 ∧ St w H G26 [.row 26 1 (.slice a28 j c29) j hs31] w' ∧ Rds G26 hs31 R ∧ j ≤ c29)
  (n - 0) [(1, .int .i64 ((k : Nat) : Int)), (2, .int .i64 ((n : Nat) : Int)), (7, .slice a1 (l.length + m) c2), (8, .int .i64 ((q : Nat) : Int)), (9, .slice a11 n c12), (10, .slice none 0 0), (11, .int .i64 ((0 : Nat) : Int))] ⟨ciI, ciI, rfl, ciI, rfl, rfl, ciI, trivial⟩ ⟨0, [], none, 0, _, G21, rfl, (by exact Nat.zero_le _), (by rfl), (by exact fun _ h => by cases h), rfl, Hp.le.refl _, S24, rs25, (Nat.le_refl _)⟩ ?_
 rintro M ρ w33 ⟨j, R, a28, c29, hs31, G26, rfl, hp35, hRl, hRx, rfl, hl27, S34, rs32, hc30⟩
 refine W_seq (Wr ?_)
 iterate 3 refine Pv ?_
 refine T_nil (Aa (fun h38 => ?_) (fun h38 => ?_))
 ·refine W_skip (W_seq (W_block (Wr (Pv ?_))))
  refine T_makeS q S34 (fun _ _ => trivial) rfl rfl rfl rfl rfl rfl rfl rfl rfl rfl (by omega) (by omega) (by show 1 * _ ≤ _; omega) (by unfold maxLen; omega) fun b39 w40 S41 => ?_
  have S42 := S41.toRow (size := 1) (m := q) (xs := (List.replicate q (0 : UInt8)).map bV) 0 rfl (made_b rfl) (by rw [List.length_map, List.length_replicate, Nat.mul_one]) (by unfold maxLen; omega)
  refine Pv (T_nil (W_seq (Wr ?_)))
  refine Pv (T_nil (W_block ?_))
  refine W_loop (fun M ρ w' => ∃ (i : Nat) (r : List UInt8) (a45 : Option Addr) (c46 : Nat) (hs48 : List Value) (a50 : Option Addr) (c51 : Nat) (G43 : Hp), M = k - i ∧ i ≤ k ∧ r.length = q ∧ ρ = [(1, .int .i64 ((k : Nat) : Int)), (2, .int .i64 ((n : Nat) : Int)), (7, .slice a1 (l.length + m) c2), (8, .int .i64 ((q : Nat) : Int)), (9, .slice a11 n c12), (10, .slice a45 j c46), (11, .int .i64 (j : Int)), (12, .slice a50 q c51), (13, .int .i64 (i : Int))] ∧ G26.le G43 ∧ St w H G43 [.row 5 1 (.slice a50 q c51) q (r.map bV), .row 26 1 (.slice a45 j c46) j hs48] w' ∧ Rds G43 hs48 R ∧ j ≤ c46 ∧ q ≤ c51)
   (k - 0) [(1, .int .i64 ((k : Nat) : Int)), (2, .int .i64 ((n : Nat) : Int)), (7, .slice a1 (l.length + m) c2), (8, .int .i64 ((q : Nat) : Int)), (9, .slice a11 n c12), (10, .slice a28 j c29), (11, .int .i64 (j : Int)), (12, .slice (some ⟨b39, 0, none⟩) q q), (13, .int .i64 ((0 : Nat) : Int))] ⟨ciI, ciI, rfl, ciI, rfl, rfl, ciI, rfl, ciI, trivial⟩ ⟨0, (List.replicate q (0 : UInt8)), a28, c29, _, (some ⟨b39, 0, none⟩), q, G26, rfl, (by exact Nat.zero_le _), (by exact List.length_replicate), rfl, Hp.le.refl _, S42, rs32, hc30, (Nat.le_refl _)⟩ ?_
  rintro M ρ w53 ⟨i, r, a45, c46, hs48, a50, c51, G43, rfl, hp55, hrl, rfl, hl44, S54, rs49, hc47, hc52⟩
  refine W_seq (Wr ?_)
  iterate 3 refine Pv ?_
  refine T_nil (Aa (fun h57 => ?_) (fun h57 => ?_))
  ·refine W_skip (W_seq (W_block (Wr (Pv (T_nil (W_block ?_))))))
   refine W_loop (fun M ρ w' => ∃ (z : Nat) (s : List UInt8) (a60 : Option Addr) (c61 : Nat) (hs63 : List Value) (a65 : Option Addr) (c66 : Nat) (G58 : Hp), M = q - z ∧ z ≤ q ∧ s.length = q ∧ ρ = [(1, .int .i64 ((k : Nat) : Int)), (2, .int .i64 ((n : Nat) : Int)), (7, .slice a1 (l.length + m) c2), (8, .int .i64 ((q : Nat) : Int)), (9, .slice a11 n c12), (10, .slice a60 j c61), (11, .int .i64 (j : Int)), (12, .slice a65 q c66), (13, .int .i64 (i : Int)), (14, .int .i64 (z : Int))] ∧ G43.le G58 ∧ St w H G58 [.row 5 1 (.slice a65 q c66) q (s.map bV), .row 26 1 (.slice a60 j c61) j hs63] w' ∧ Rds G58 hs63 R ∧ j ≤ c61 ∧ q ≤ c66)
    (q - 0) [(1, .int .i64 ((k : Nat) : Int)), (2, .int .i64 ((n : Nat) : Int)), (7, .slice a1 (l.length + m) c2), (8, .int .i64 ((q : Nat) : Int)), (9, .slice a11 n c12), (10, .slice a45 j c46), (11, .int .i64 (j : Int)), (12, .slice a50 q c51), (13, .int .i64 (i : Int)), (14, .int .i64 ((0 : Nat) : Int))] ⟨ciI, ciI, rfl, ciI, rfl, rfl, ciI, rfl, ciI, ciI, trivial⟩ ⟨0, r, a45, c46, _, a50, c51, G43, rfl, (by exact Nat.zero_le _), (by exact hrl), rfl, Hp.le.refl _, S54, rs49, hc47, hc52⟩ ?_
   rintro M ρ w68 ⟨z, s, a60, c61, hs63, a65, c66, G58, rfl, hp70, hsl, rfl, hl59, S69, rs64, hc62, hc67⟩
   refine W_seq (Wr ?_)
   iterate 3 refine Pv ?_
   refine T_nil (Aa (fun h72 => ?_) (fun h72 => ?_))
   ·refine W_skip (W_seq (W_block (W_plan (planF Tryd.prog G58 [61]) rfl (by kernel_rfl) S69.le ?_)))
    have S73 := S69.drew
    iterate 2 refine Pv ?_
    obtain ⟨g74, rfl⟩ := S73.rowAt 0 rfl (by omega)
    refine Ai (hm := by show 0 + Int.toNat _ * 1 = _; omega) (z * 1) ?_
    refine T_load rfl rfl rfl rfl rfl rfl rfl (S73.rowCell 0 rfl (cellB_at (by omega))) ?_
    iterate 2 refine Pv ?_
    obtain ⟨hs78, r79, r80⟩ := (r13.mono (hl22.trans (hl27.trans (hl44.trans hl59))))
    refine Ah j r79 fun b75 o76 hc77 => ?_
    obtain ⟨a83, c84, hc86, hv82, r85⟩ := r80.at j (by omega)
    have hc87 := hc77 0 (.slice a83 ((prod (vand k n) (invTo (vand k k) k k) k n).getD j []).length c84) (by simpa using hv82)
    simp only [Nat.add_zero] at hc87
    refine Ac S73 hc87 ?_
    refine Pv ?_
    have hmr : ((prod (vand k n) (invTo (vand k k) k k) k n).getD j []).length = k := by rw [List.getD_eq_getElem?_getD, List.getElem?_eq_getElem (by omega)]; exact hmx _ (List.getElem_mem _)
    refine Ah i r85 fun b88 o89 hc90 => ?_
    have hc91 := hc90 0 (bV (((prod (vand k n) (invTo (vand k k) k k) k n).getD j []).getD i 0)) (at_b ((prod (vand k n) (invTo (vand k k) k k) k n).getD j []) i (by omega))
    simp only [Nat.add_zero] at hc91
    refine Ac S73 hc91 ?_
    iterate 3 refine Pv ?_
    have hb1 : (i + 1) * q ≤ k * q := Nat.mul_le_mul_right q (by omega)
    have hb2 : (i + 1) * q = i * q + q := Nat.succ_mul i q
    have hb3 : ((i : Nat) : Int) * ((q : Nat) : Int) = ((i * q : Nat) : Int) := (Int.natCast_mul i q).symm
    have hb4 : (l ++ List.replicate m (0 : UInt8)).length = l.length + m := by rw [List.length_append, List.length_replicate]
    refine Ar ?_
    refine T_re (v' := .int .i64 (((i * q) : Nat) : Int)) (congrArg (Value.int .i64) hb3) (Pv ?_)
    refine Ar ?_
    refine Ah ((i * q) + z) (r23.mono (hl27.trans (hl44.trans hl59))) fun b92 o93 hc94 => ?_
    have hc95 := hc94 0 (bV ((l ++ List.replicate m (0 : UInt8)).getD ((i * q) + z) 0)) (at_b (l ++ List.replicate m (0 : UInt8)) ((i * q) + z) (by omega))
    simp only [Nat.add_zero] at hc95
    refine Ac S73 hc95 ?_
    refine T_callQ rfl rfl g_aumbry_aumbryref04_Mul (by kernel_rfl) rfl rfl rfl rfl (fun u => rmul_ok (H := fun _ => none) (w := u) (fun _ _ h => by cases h) (((prod (vand k n) (invTo (vand k k) k k) k n).getD j []).getD i 0) ((l ++ List.replicate m (0 : UInt8)).getD ((i * q) + z) 0) ) ?_
    refine Pv ?_
    refine T_re (v' := bV (s.getD z 0 ^^^ gmul (((prod (vand k n) (invTo (vand k k) k k) k n).getD j []).getD i 0) ((l ++ List.replicate m (0 : UInt8)).getD (i * q + z) 0))) (congrArg (Value.int .u8) (xorU8 _ _)) (Ai (hm := by show 0 + Int.toNat _ * 1 = _; omega) (z * 1) ?_)
    refine T_storeRow 0 ((s.set z (s.getD z 0 ^^^ gmul (((prod (vand k n) (invTo (vand k k) k k) k n).getD j []).getD i 0) ((l ++ List.replicate m (0 : UInt8)).getD (i * q + z) 0))).map bV) S73 (fun _ h => ((Hp.le.refl _)).trans h) rfl rfl rfl rfl rfl rfl rfl rfl rfl (by show _ + 1 ≤ _ * 1; omega) (one_bV1 (b := (s.getD z 0 ^^^ gmul (((prod (vand k n) (invTo (vand k k) k k) k n).getD j []).getD i 0) ((l ++ List.replicate m (0 : UInt8)).getD (i * q + z) 0)))) (set_bytes (l := s) (q := z) (x := (s.getD z 0 ^^^ gmul (((prod (vand k n) (invTo (vand k k) k k) k n).getD j []).getD i 0) ((l ++ List.replicate m (0 : UInt8)).getD (i * q + z) 0))) (by omega)) fun w96 S97 => (T_nil (W_region ?_))
    refine Pv ?_
    refine Ar ?_
    refine Pv (T_nil ?_)
    exact ⟨q - (z + 1), [(1, .int .i64 ((k : Nat) : Int)), (2, .int .i64 ((n : Nat) : Int)), (7, .slice a1 (l.length + m) c2), (8, .int .i64 ((q : Nat) : Int)), (9, .slice a11 n c12), (10, .slice a60 j c61), (11, .int .i64 (j : Int)), (12, .slice (some ⟨g74, 0, none⟩) q c66), (13, .int .i64 (i : Int)), (14, .int .i64 ((z + 1 : Nat) : Int))], by omega, ⟨ciI, ciI, rfl, ciI, rfl, rfl, ciI, rfl, ciI, ciI, trivial⟩, z + 1, (s.set z (s.getD z 0 ^^^ gmul (((prod (vand k n) (invTo (vand k k) k k) k n).getD j []).getD i 0) ((l ++ List.replicate m (0 : UInt8)).getD (i * q + z) 0))), a60, c61, _, (some ⟨g74, 0, none⟩), c66, G58, rfl, (by omega), (by rw [List.length_set]; exact hsl), rfl, hl59, S97, rs64, hc62, hc67⟩
   refine W_exit (W_region (Pv ?_))
   refine Ar ?_
   refine Pv (T_nil ?_)
   exact ⟨k - (i + 1), [(1, .int .i64 ((k : Nat) : Int)), (2, .int .i64 ((n : Nat) : Int)), (7, .slice a1 (l.length + m) c2), (8, .int .i64 ((q : Nat) : Int)), (9, .slice a11 n c12), (10, .slice a60 j c61), (11, .int .i64 (j : Int)), (12, .slice a65 q c66), (13, .int .i64 ((i + 1 : Nat) : Int))], by omega, ⟨ciI, ciI, rfl, ciI, rfl, rfl, ciI, rfl, ciI, trivial⟩, i + 1, s, a60, c61, _, a65, c66, G58, rfl, (by omega), (by exact hsl), rfl, (hl44.trans hl59), S69, rs64, hc62, hc67⟩
  refine W_exit (W_region ?_)
  iterate 2 refine Pv ?_
  obtain ⟨G103, hl104, S102, r105⟩ := S54.stillRow 0 rfl
  have rs106 : Rds G103 [.slice a50 q c51] [r] := Rds.cons (Rd.canonB r105) (Rds.nil _)
  refine Af (hone := by simp [Value.cells]; rfl) [.slice a50 q c51] fun a98 w99 hB100 ho101 => ?_
  have S107 := S102.own hB100 ho101
  refine ⟨trivial, ?_⟩
  have hD108 : (R ++ [r]) = (R ++ [r]) := rfl
  refine T_appendS 1 (j + 1) _ S107 (fun _ _ => trivial) rfl rfl rfl rfl rfl rfl rfl rfl rfl rfl rfl rfl rfl rfl (S107.rd 0 rfl) rs106.one (by first | rfl | (simp; done) | (simp; omega) | omega) rfl (by unfold maxLen; omega) (by show _ * 24 ≤ _; omega) fun a109 c110 w111 hc112 S113 => ?_
  have rs114 := Rds.append (rs49.mono hl104) rs106
  rw [hD108] at rs114
  refine Pv (T_nil (W_region ?_))
  refine Pv ?_
  refine Ar ?_
  refine Pv (T_nil ?_)
  have S115 := S113.drop 0
  exact ⟨n - (j + 1), [(1, .int .i64 ((k : Nat) : Int)), (2, .int .i64 ((n : Nat) : Int)), (7, .slice a1 (l.length + m) c2), (8, .int .i64 ((q : Nat) : Int)), (9, .slice a11 n c12), (10, .slice a109 (j + 1) c110), (11, .int .i64 ((j + 1 : Nat) : Int))], by omega, ⟨ciI, ciI, rfl, ciI, rfl, rfl, ciI, trivial⟩, j + 1, (R ++ [r]), a109, c110, _, G103, rfl, (by omega), (by rw [List.length_append, hRl]; rfl), (by exact all_snoc hRx hrl), rfl, (hl27.trans (hl44.trans hl104)), S115, rs114, hc112⟩
 refine W_exit (Wr ?_)
 iterate 2 refine Pv ?_
 refine T_nil (W_ret ?_)
 refine ⟨_, ⟨_, _, rfl, rfl, rfl⟩, ?_⟩
 obtain ⟨G117, hl118, S116, r119⟩ := S34.stillRow 0 rfl
 have r120 := RdL.mk r119 (rs32.mono hl118)
 obtain rfl : n = j := by omega
 exact ⟨_, _, q, m, R, rfl, (r120).mono S116.fin, hRl, hRx, hqk, hm, S116.below⟩

end Go.Proofs.YtmjmjjkigblbgaaDoor
