/- The document's products of matrices. -/
import Derived.Test.YtmjmjjkigblbgaaDoorGfA
set_option linter.unusedVariables false
set_option linter.unusedSimpArgs false
set_option maxRecDepth 8192
namespace Go.Proofs.YtmjmjjkigblbgaaDoor
open Go Go.F Go.RowKit
open Go.Au

theorem rdot_ok {H : Hp} {w : World} (hH : H.le (hw w)) {l : List UInt8} {aa0 : Option Addr} {nn0 cc0 : Nat} (hv : Rd H (.slice aa0 nn0 cc0) nn0 1 (l.map bV)) {m : List UInt8} {aa1 : Option Addr} {nn1 cc1 : Nat} (hu : Rd H (.slice aa1 nn1 cc1) nn1 1 (m.map bV)) (hl : l.length ≤ 1000) (hm : m.length ≤ 1000) :
  Calls Tryd.prog 135 #[.slice aa0 nn0 cc0, .slice aa1 nn1 cc1] w fun e w' => e = .returned (bV (dotTo l m (min l.length m.length))) ∧ Below w.heap.size w w' := by
 obtain rfl : nn0 = l.length := hv.lenB
 have hvcap : l.length ≤ cc0 := hv.capOf
 obtain rfl : nn1 = m.length := hu.lenB
 have hucap : m.length ≤ cc1 := hu.capOf
 refine enter2 _ Tryd.func135 rfl Tryd.ntmps135 Tryd.results135 rfl ?_
 have S0 := St.start w hH
 refine Wr (Pv (Nr ?_))
 refine Pv (T_nil (W_seq (Wr ?_)))
 refine Pv (T_nil (W_block ?_))
 refine W_loop (fun M ρ w' => ∃ (k : Nat) (G1 : Hp), M = l.length - k ∧ k ≤ l.length ∧ k ≤ m.length ∧ ρ = [(0, .slice aa0 l.length cc0), (1, .slice aa1 m.length cc1), (5, bV (dotTo l m k)), (6, .int .i64 (k : Int))] ∧ H.le G1 ∧ St w H G1 [] w')
  (l.length - 0) [(0, .slice aa0 l.length cc0), (1, .slice aa1 m.length cc1), (5, bV (dotTo l m 0)), (6, .int .i64 ((0 : Nat) : Int))] ⟨rfl, rfl, rfl, ciI, trivial⟩ ⟨0, H, rfl, (by omega), (by omega), rfl, Hp.le.refl _, S0⟩ ?_
 rintro M ρ w3 ⟨k, G1, rfl, hp5, hp6, rfl, hl2, S4⟩
 refine W_seq (Wr ?_)
 iterate 5 refine Pv ?_
 refine Tp 11 (fun h7' => ?_) (fun h7' => ?_)
 ·have h7 := of_decide_eq_true h7'
  iterate 4 (refine Ys ?_; refine Pv ?_)
  refine Pv (T_nil ?_)
  refine Aa (fun h8 => ?_) (fun h8 => ?_)
  ·refine W_skip (W_seq (W_block (W_draw rfl (by kernel_rfl) ?_)))
   have S9 := S4.drew
   iterate 3 refine Pv ?_
   refine Ah k (hv.mono hl2) fun b10 o11 hc12 => ?_
   have hc13 := hc12 0 (bV (l.getD k 0)) (at_b l k (by omega))
   simp only [Nat.add_zero] at hc13
   refine Ac S9 hc13 ?_
   iterate 2 refine Pv ?_
   refine Ah k (hu.mono hl2) fun b14 o15 hc16 => ?_
   have hc17 := hc16 0 (bV (m.getD k 0)) (at_b m k (by omega))
   simp only [Nat.add_zero] at hc17
   refine Ac S9 hc17 ?_
   refine Cs g_aumbry_aumbryref04_Mul ((rmul_b S9.le (l.getD k 0) (m.getD k 0) ).mono ?_)
   rintro e w19 ⟨rfl, hB18⟩
   have S20 := S9.call hB18
   refine ⟨_, rfl, trivial, ?_⟩
   refine Pv ?_
   refine T_re (v' := bV (dotTo l m (k + 1))) (congrArg (Value.int .u8) (xorU8 _ _)) (Pv (T_nil (W_region ?_)))
   refine Pv ?_
   refine Ar ?_
   refine Pv (T_nil ?_)
   exact ⟨l.length - (k + 1), [(0, .slice aa0 l.length cc0), (1, .slice aa1 m.length cc1), (5, bV (dotTo l m (k + 1))), (6, .int .i64 ((k + 1 : Nat) : Int))], by omega, ⟨rfl, rfl, rfl, ciI, trivial⟩, k + 1, G1, rfl, (by omega), (by omega), rfl, hl2, S20⟩
  refine W_exit (Wr ?_)
  iterate 2 refine Pv ?_
  refine T_nil (W_ret ?_)
  refine ⟨_, ⟨_, _, rfl, rfl, rfl⟩, ?_⟩
  rw [show min l.length m.length = k by omega]
  exact ⟨rfl, S4.below⟩
 have h7 := of_decide_eq_false h7'
 iterate 4 refine No ?_
 refine Pv (T_nil ?_)
 refine W_cond_false rfl (W_exit (Wr ?_))
 iterate 2 refine Pv ?_
 refine T_nil (W_ret ?_)
 refine ⟨_, ⟨_, _, rfl, rfl, rfl⟩, ?_⟩
 rw [show min l.length m.length = k by omega]
 exact ⟨rfl, S4.below⟩


theorem rcol_ok {H : Hp} {w : World} (hH : H.le (hw w)) {R : List (List UInt8)} {aa0 : Option Addr} {nn0 cc0 : Nat} (hv : RdL H (.slice aa0 nn0 cc0) R) (j : Nat) (hM : R.length ≤ 16) (hj : j < 1000) (hx : ∀ x ∈ R, j < x.length) :
  Calls Tryd.prog 136 #[.slice aa0 nn0 cc0, .int .i64 ((j : Nat) : Int)] w fun e w' => ∃ a c, (colTo R j R.length).length ≤ c ∧ e = .returned (.slice a (colTo R j R.length).length c) ∧ rowZ w' w.heap.size 5 1 (.slice a (colTo R j R.length).length c) (colTo R j R.length).length ((colTo R j R.length).map bV) ∧ Below w.heap.size w w' := by
 obtain rfl : nn0 = R.length := hv.len
 refine enter2 _ Tryd.func136 rfl Tryd.ntmps136 Tryd.results136 rfl ?_
 have S0 := St.start w hH
 refine Wr (Pv (Nr ?_))
 refine Pv (T_nil (W_seq (Wr ?_)))
 iterate 3 refine Pv ?_
 refine T_nil (W_block ?_)
 have S1 := S0.nilRow 5 1
 refine W_loop (fun M ρ w' => ∃ (k : Nat) (a4 : Option Addr) (c5 : Nat) (G2 : Hp), M = R.length - k ∧ k ≤ R.length ∧ ρ = [(0, .slice aa0 R.length cc0), (1, .int .i64 ((j : Nat) : Int)), (5, .slice a4 k c5), (8, .int .i64 ((R.length : Nat) : Int)), (9, .int .i64 (k : Int))] ∧ H.le G2 ∧ St w H G2 [.row 5 1 (.slice a4 k c5) k ((colTo R j k).map bV)] w' ∧ k ≤ c5)
  (R.length - 0) [(0, .slice aa0 R.length cc0), (1, .int .i64 ((j : Nat) : Int)), (5, .slice none 0 0), (8, .int .i64 ((R.length : Nat) : Int)), (9, .int .i64 ((0 : Nat) : Int))] ⟨rfl, ciI, rfl, ciI, ciI, trivial⟩ ⟨0, none, 0, H, rfl, (by omega), rfl, Hp.le.refl _, S1, (Nat.le_refl _)⟩ ?_
 rintro M ρ w7 ⟨k, a4, c5, G2, rfl, hp9, rfl, hl3, S8, hc6⟩
 refine Wr (Pv (T_nil (W_seq ?_)))
 refine Aa (fun h10 => ?_) (fun h10 => ?_)
 ·refine W_skip (W_seq (W_block (Wr ?_)))
  iterate 2 refine Pv ?_
  refine T_nil (W_region ?_)
  iterate 3 refine Pv ?_
  obtain ⟨hs14, r15, r16⟩ := (hv.mono hl3)
  refine Ah k r15 fun b11 o12 hc13 => ?_
  obtain ⟨a19, c20, hc22, hv18, r21⟩ := r16.at k (by omega)
  have hc23 := hc13 0 (.slice a19 (R.getD k []).length c20) (by simpa using hv18)
  simp only [Nat.add_zero] at hc23
  refine Ac S8 hc23 ?_
  refine Pv ?_
  have hjl : j < (R.getD k []).length := by rw [List.getD_eq_getElem?_getD, List.getElem?_eq_getElem (by omega)]; exact hx _ (List.getElem_mem _)
  refine Ah j r21 fun b24 o25 hc26 => ?_
  have hc27 := hc26 0 (bV ((R.getD k []).getD j 0)) (at_b (R.getD k []) j (by omega))
  simp only [Nat.add_zero] at hc27
  refine Ac S8 hc27 ?_
  refine Af (hone := by simp [Value.cells]; rfl) ([((R.getD k []).getD j 0 : UInt8)].map bV) fun a28 w29 hB30 ho31 => ?_
  have S32 := S8.own hB30 ho31
  refine ⟨trivial, ?_⟩
  have hD33 : (colTo R j k ++ [((R.getD k []).getD j 0 : UInt8)]) = colTo R j (k + 1) := (colTo_snoc R j k)
  refine Ag (h1 := by exact one_bV _) (hn' := by first | rfl | (simp; done) | (simp; omega) | omega) (hx' := by rw [← hD33]; simp) (hbytes := by show _ * 1 ≤ _; omega) 1 (k + 1) ((colTo R j (k + 1)).map bV) S32 (S32.rd 0 rfl) fun a34 c35 w36 hc37 S38 => ?_
  refine Pv (T_nil (W_region ?_))
  refine Ar ?_
  refine Pv (T_nil ?_)
  have S39 := S38.drop 0
  exact ⟨R.length - (k + 1), [(0, .slice aa0 R.length cc0), (1, .int .i64 ((j : Nat) : Int)), (5, .slice a34 (k + 1) c35), (8, .int .i64 ((R.length : Nat) : Int)), (9, .int .i64 ((k + 1 : Nat) : Int))], by omega, ⟨rfl, ciI, rfl, ciI, ciI, trivial⟩, k + 1, a34, c35, G2, rfl, (by omega), rfl, hl3, S39, hc37⟩
 refine W_exit (Wr ?_)
 iterate 2 refine Pv ?_
 refine T_nil (W_ret ?_)
 refine ⟨_, ⟨_, _, rfl, rfl, rfl⟩, ?_⟩
 obtain rfl : k = R.length := by omega
 rw [show (colTo R j R.length).length = R.length from colTo_len _ _ _]
 exact ⟨_, _, hc6, rfl, S8.row 0 rfl, S8.below⟩


theorem rprod_ok {H : Hp} {w : World} (hH : H.le (hw w)) {A : List (List UInt8)} {aa0 : Option Addr} {nn0 cc0 : Nat} (hv : RdL H (.slice aa0 nn0 cc0) A) {B : List (List UInt8)} {aa1 : Option Addr} {nn1 cc1 : Nat} (hu : RdL H (.slice aa1 nn1 cc1) B) (k : Nat) (hA : A.length ≤ 16) (hB : 1 ≤ B.length ∧ B.length ≤ 16) (hk : k ≤ 16) (hax : ∀ x ∈ A, x.length ≤ 16) (hbx : ∀ x ∈ B, x.length = k) :
  Calls Tryd.prog 127 #[.slice aa0 nn0 cc0, .slice aa1 nn1 cc1] w fun e w' => ∃ a c, e = .returned (.slice a A.length c) ∧ RdL (F.ext H w.heap.size w') (.slice a A.length c) (prod A B k A.length) ∧ Below w.heap.size w w' := by
 obtain rfl : nn0 = A.length := hv.len
 obtain rfl : nn1 = B.length := hu.len
 have hB0 : (B.getD 0 []).length = k := by rw [List.getD_eq_getElem?_getD, List.getElem?_eq_getElem (by omega)]; exact hbx _ (List.getElem_mem _)
 refine enter2 _ Tryd.func127 rfl Tryd.ntmps127 Tryd.results127 rfl ?_
 have S0 := St.start w hH
 refine Wr (Pv (Nr ?_))
 refine Pv (T_nil (W_seq (Wr ?_)))
 iterate 3 refine Pv ?_
 refine T_nil (W_block ?_)
 have S1 := S0.nilRow 26 1
 have rs2 := Rds.nil H
 refine W_loop (fun M ρ w' => ∃ (i : Nat) (a5 : Option Addr) (c6 : Nat) (hs8 : List Value) (G3 : Hp), M = A.length - i ∧ i ≤ A.length ∧ ρ = [(0, .slice aa0 A.length cc0), (1, .slice aa1 B.length cc1), (5, .slice a5 i c6), (10, .int .i64 ((A.length : Nat) : Int)), (11, .int .i64 (i : Int))] ∧ H.le G3 ∧ St w H G3 [.row 26 1 (.slice a5 i c6) i hs8] w' ∧ Rds G3 hs8 (prod A B k i) ∧ i ≤ c6)
  (A.length - 0) [(0, .slice aa0 A.length cc0), (1, .slice aa1 B.length cc1), (5, .slice none 0 0), (10, .int .i64 ((A.length : Nat) : Int)), (11, .int .i64 ((0 : Nat) : Int))] ⟨rfl, rfl, rfl, ciI, ciI, trivial⟩ ⟨0, none, 0, _, H, rfl, (by exact Nat.zero_le _), rfl, Hp.le.refl _, S1, rs2, (Nat.le_refl _)⟩ ?_
 rintro M ρ w10 ⟨i, a5, c6, hs8, G3, rfl, hp12, rfl, hl4, S11, rs9, hc7⟩
 refine Wr (Pv (T_nil (W_seq ?_)))
 refine Aa (fun h13 => ?_) (fun h13 => ?_)
 ·refine W_skip (W_seq (W_block (Wr ?_)))
  iterate 2 refine Pv ?_
  refine Nr (Pv (T_nil (W_seq (Wr ?_))))
  refine Pv ?_
  obtain ⟨hs17, r18, r19⟩ := (hu.mono hl4)
  refine Ah 0 r18 fun b14 o15 hc16 => ?_
  obtain ⟨a22, c23, hc25, hv21, r24⟩ := r19.at 0 (by omega)
  have hc26 := hc16 0 (.slice a22 (B.getD 0 []).length c23) (by simpa using hv21)
  simp only [Nat.add_zero] at hc26
  refine Ac S11 hc26 ?_
  iterate 2 refine Pv ?_
  refine T_nil (W_block ?_)
  have S27 := S11.nilRow 5 1
  refine W_loop (fun M ρ w' => ∃ (j : Nat) (a30 : Option Addr) (c31 : Nat) (hs33 : List Value) (a35 : Option Addr) (c36 : Nat) (G28 : Hp), M = k - j ∧ j ≤ k ∧ ρ = [(0, .slice aa0 A.length cc0), (1, .slice aa1 B.length cc1), (5, .slice a30 i c31), (6, .int .i64 (i : Int)), (7, .slice a35 j c36), (10, .int .i64 ((A.length : Nat) : Int)), (11, .int .i64 (i : Int)), (17, .int .i64 (((B.getD 0 []).length : Nat) : Int)), (18, .int .i64 (j : Int))] ∧ G3.le G28 ∧ St w H G28 [.row 5 1 (.slice a35 j c36) j ((prow A B i j).map bV), .row 26 1 (.slice a30 i c31) i hs33] w' ∧ Rds G28 hs33 (prod A B k i) ∧ i ≤ c31 ∧ j ≤ c36)
   (k - 0) [(0, .slice aa0 A.length cc0), (1, .slice aa1 B.length cc1), (5, .slice a5 i c6), (6, .int .i64 (i : Int)), (7, .slice none 0 0), (10, .int .i64 ((A.length : Nat) : Int)), (11, .int .i64 (i : Int)), (17, .int .i64 (((B.getD 0 []).length : Nat) : Int)), (18, .int .i64 ((0 : Nat) : Int))] ⟨rfl, rfl, rfl, ciI, rfl, ciI, ciI, ciI, ciI, trivial⟩ ⟨0, a5, c6, _, none, 0, G3, rfl, (by exact Nat.zero_le _), rfl, Hp.le.refl _, S27, rs9, hc7, (Nat.le_refl _)⟩ ?_
  rintro M ρ w38 ⟨j, a30, c31, hs33, a35, c36, G28, rfl, hp40, rfl, hl29, S39, rs34, hc32, hc37⟩
  refine Wr (Pv (T_nil (W_seq ?_)))
  refine Aa (fun h41 => ?_) (fun h41 => ?_)
  ·refine W_skip (W_seq (W_block (Wr ?_)))
   iterate 2 refine Pv ?_
   refine T_nil (W_plan (planF Tryd.prog G28 [25]) rfl (by kernel_rfl) S39.le ?_)
   have S42 := S39.drew
   iterate 3 refine Pv ?_
   obtain ⟨hs46, r47, r48⟩ := (hv.mono (hl4.trans hl29))
   refine Ah i r47 fun b43 o44 hc45 => ?_
   obtain ⟨a51, c52, hc54, hv50, r53⟩ := r48.at i (by omega)
   have hc55 := hc45 0 (.slice a51 (A.getD i []).length c52) (by simpa using hv50)
   simp only [Nat.add_zero] at hc55
   refine Aj hc55 ?_
   refine Pv ?_
   have HCX : ∀ x ∈ B, j < x.length := fun x hx => by have := hbx x hx; omega
   refine Pv ?_
   have hal : (A.getD i []).length ≤ 16 := by rw [List.getD_eq_getElem?_getD, List.getElem?_eq_getElem (by omega)]; exact hax _ (List.getElem_mem _)
   have hcl := colTo_len B j B.length
   refine Cs g_aumbry_aumbryref04_column ((rcol_ok S42.le (hu.mono (hl4.trans hl29)) j (by omega) (by omega) HCX).mono ?_)
   rintro e w61 ⟨a56, c57, hc58, rfl, ho59, hB60⟩
   have S62 := S42.own hB60 ho59
   refine ⟨_, rfl, (((Hp.le.refl _)).trans S62.le), ?_⟩
   obtain ⟨G64, hl65, S63, r66⟩ := S62.stillRow 0 rfl
   refine Cs g_aumbry_aumbryref04_Dot ((rdot_ok S63.le (r53.mono hl65) r66 (by omega) (by omega)).mono ?_)
   rintro e w68 ⟨rfl, hB67⟩
   have S69 := S63.call hB67
   refine ⟨_, rfl, ((hl65).trans S69.le), ?_⟩
   refine Af (hone := by simp [Value.cells]; rfl) ([((dotTo (A.getD i []) (colTo B j B.length) (min (A.getD i []).length (colTo B j B.length).length)) : UInt8)].map bV) fun a70 w71 hB72 ho73 => ?_
   have S74 := S69.own hB72 ho73
   refine ⟨((hl65).trans S74.le), ?_⟩
   have hD75 : (prow A B i j ++ [((dotTo (A.getD i []) (colTo B j B.length) (min (A.getD i []).length (colTo B j B.length).length)) : UInt8)]) = prow A B i (j + 1) := (by rw [← prow_snoc A B i j, hcl])
   refine Ag (hC := fun _ h => (hl65).trans h) (h1 := by exact one_bV _) (hn' := by first | rfl | (simp; done) | (simp; omega) | omega) (hx' := by rw [← hD75]; simp) (hbytes := by show _ * 1 ≤ _; omega) 1 (j + 1) ((prow A B i (j + 1)).map bV) S74 (S74.rd 0 rfl) fun a76 c77 w78 hc79 S80 => ?_
   refine Pv (T_nil (W_region ?_))
   refine Ar ?_
   refine Pv (T_nil ?_)
   have S81 := S80.drop 0
   exact ⟨k - (j + 1), [(0, .slice aa0 A.length cc0), (1, .slice aa1 B.length cc1), (5, .slice a30 i c31), (6, .int .i64 (i : Int)), (7, .slice a76 (j + 1) c77), (10, .int .i64 ((A.length : Nat) : Int)), (11, .int .i64 (i : Int)), (17, .int .i64 (((B.getD 0 []).length : Nat) : Int)), (18, .int .i64 ((j + 1 : Nat) : Int))], by omega, ⟨rfl, rfl, rfl, ciI, rfl, ciI, ciI, ciI, ciI, trivial⟩, j + 1, a30, c31, _, a76, c77, G64, rfl, (by omega), rfl, (hl29.trans hl65), S81, (rs34.mono hl65), hc32, hc79⟩
  refine W_exit (W_region ?_)
  iterate 2 refine Pv ?_
  obtain ⟨G87, hl88, S86, r89⟩ := S39.stillRow 0 rfl
  have rs90 : Rds G87 [.slice a35 j c36] [prow A B i j] := Rds.cons (Rd.canonB r89) (Rds.nil _)
  refine Af (hone := by simp [Value.cells]; rfl) [.slice a35 j c36] fun a82 w83 hB84 ho85 => ?_
  have S91 := S86.own hB84 ho85
  refine ⟨trivial, ?_⟩
  have hD92 : (prod A B k i ++ [prow A B i j]) = prod A B k (i + 1) := (by rw [show j = k by omega]; exact prod_snoc A B k i)
  refine T_appendS 1 (i + 1) _ S91 (fun _ _ => trivial) rfl rfl rfl rfl rfl rfl rfl rfl rfl rfl rfl rfl rfl rfl (S91.rd 0 rfl) rs90.one (by first | rfl | (simp; done) | (simp; omega) | omega) rfl (by unfold maxLen; omega) (by show _ * 24 ≤ _; omega) fun a93 c94 w95 hc96 S97 => ?_
  have rs98 := Rds.append (rs34.mono hl88) rs90
  rw [hD92] at rs98
  refine Pv (T_nil (W_region ?_))
  refine Ar ?_
  refine Pv (T_nil ?_)
  have S99 := S97.drop 0
  exact ⟨A.length - (i + 1), [(0, .slice aa0 A.length cc0), (1, .slice aa1 B.length cc1), (5, .slice a93 (i + 1) c94), (10, .int .i64 ((A.length : Nat) : Int)), (11, .int .i64 ((i + 1 : Nat) : Int))], by omega, ⟨rfl, rfl, rfl, ciI, ciI, trivial⟩, i + 1, a93, c94, _, G87, rfl, (by omega), rfl, (hl4.trans (hl29.trans hl88)), S99, rs98, hc96⟩
 refine W_exit (Wr ?_)
 iterate 2 refine Pv ?_
 refine T_nil (W_ret ?_)
 refine ⟨_, ⟨_, _, rfl, rfl, rfl⟩, ?_⟩
 obtain ⟨G101, hl102, S100, r103⟩ := S11.stillRow 0 rfl
 have r104 := RdL.mk r103 (rs9.mono hl102)
 obtain rfl : i = A.length := by omega
 exact ⟨_, _, rfl, (r104).mono S100.fin, S100.below⟩

end Go.Proofs.YtmjmjjkigblbgaaDoor
