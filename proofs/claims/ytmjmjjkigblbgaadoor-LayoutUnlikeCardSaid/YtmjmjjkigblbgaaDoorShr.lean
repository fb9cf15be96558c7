/- A file's shares, by the document. -/
import Derived.Test.YtmjmjjkigblbgaaDoorGfF
import Derived.Test.YtmjmjjkigblbgaaDoorTreeC
import Derived.Test.YtmjmjjkigblbgaaDoorFDoor
set_option linter.unusedVariables false
set_option linter.unusedSimpArgs false
set_option maxRecDepth 8192
namespace Go.Proofs.YtmjmjjkigblbgaaDoor
open Go Go.F Go.RowKit
open Go.Au hiding step_len

theorem segs_ok {H : Hp} {w : World} (hH : H.le (hw w)) {l : List UInt8} {aa0 : Option Addr} {nn0 cc0 : Nat} (hv : Rd H (.slice aa0 nn0 cc0) nn0 1 (l.map bV)) (hl : l.length ≤ 1000) :
  Calls Tryd.prog 101 #[.slice aa0 nn0 cc0] w fun e w' => ∃ a c SG, e = .returned (.slice a SG.length c) ∧ RdL (F.ext H w.heap.size w') (.slice a SG.length c) SG ∧ SG.length = ((l.length + 63) / 64) ∧ (∀ t, t < SG.length → (SG.getD t []).length = min (l.length - 64 * t) 64) ∧ Below w.heap.size w w' := by
 obtain rfl : nn0 = l.length := hv.lenB
 have hvcap : l.length ≤ cc0 := hv.capOf
 refine enter1 _ Tryd.func101 rfl Tryd.ntmps101 Tryd.results101 rfl ?_
 have S0 := St.start w hH
 refine Wr (Pv (Nr ?_))
 refine Pv (T_nil (W_seq (Wr ?_)))
 refine Pv (T_nil (W_block ?_))
 have S1 := S0.nilRow 26 1
 have rs2 := Rds.nil H
 refine W_loop (fun M ρ w' => ∃ (j : Nat) (SG : List (List UInt8)) (a5 : Option Addr) (c6 : Nat) (hs8 : List Value) (G3 : Hp), M = ((l.length + 63) / 64) - j ∧ j ≤ ((l.length + 63) / 64) ∧ SG.length = j ∧ ((∀ t, t < j → (SG.getD t []).length = min (l.length - 64 * t) 64)) ∧ ρ = [(0, .slice aa0 l.length cc0), (3, .slice a5 j c6), (4, .int .i64 ((64 * j : Nat) : Int))] ∧ H.le G3 ∧ St w H G3 [.row 26 1 (.slice a5 j c6) j hs8] w' ∧ Rds G3 hs8 SG ∧ j ≤ c6)
  (((l.length + 63) / 64) - 0) [(0, .slice aa0 l.length cc0), (3, .slice none 0 0), (4, .int .i64 ((64 * 0 : Nat) : Int))] ⟨rfl, rfl, ciI, trivial⟩ ⟨0, [], none, 0, _, H, rfl, (by exact Nat.zero_le _), (by rfl), (by exact fun t h => absurd h (Nat.not_lt_zero t)), rfl, Hp.le.refl _, S1, rs2, (Nat.le_refl _)⟩ ?_
 rintro M ρ w10 ⟨j, SG, a5, c6, hs8, G3, rfl, hp12, hsl, hsx, rfl, hl4, S11, rs9, hc7⟩
 refine W_seq (Wr ?_)
 iterate 4 refine Pv ?_
 refine T_nil (Aa (fun h15 => ?_) (fun h15 => ?_))
 ·refine W_skip (W_seq (W_block (W_region ?_)))
  iterate 6 refine Pv ?_
  refine Ar ?_
  refine Pv ?_
  refine T_sliceR (64 * j) (min l.length ((64 * j) + 64)) (hv.mono hl4) rfl rfl rfl rfl rfl rfl rfl rfl rfl rfl (bound_of (by omega)) (bound_of (by omega)) (by omega) (by omega) fun a16 c17 hc18 r19 => ?_
  have r20 := Rd.cutB r19
  have rs25 : Rds G3 [.slice a16 ((min l.length ((64 * j) + 64)) - (64 * j)) c17] [((l.drop (64 * j)).take ((min l.length ((64 * j) + 64)) - (64 * j)))] := Rds.cons (Rd.canonB r20) (Rds.nil _)
  refine Af (hone := by simp [Value.cells]; rfl) [.slice a16 ((min l.length ((64 * j) + 64)) - (64 * j)) c17] fun a21 w22 hB23 ho24 => ?_
  have S26 := S11.own hB23 ho24
  refine ⟨trivial, ?_⟩
  refine T_appendS 1 (j + 1) _ S26 (fun _ _ => trivial) rfl rfl rfl rfl rfl rfl rfl rfl rfl rfl rfl rfl rfl rfl (S26.rd 0 rfl) rs25.one (by first | rfl | (simp; done) | (simp; omega) | omega) rfl (by unfold maxLen; omega) (by show _ * 24 ≤ _; omega) fun a27 c28 w29 hc30 S31 => ?_
  have rs32 := Rds.append rs9 rs25
  refine Pv (T_nil (W_region ?_))
  refine Pv ?_
  refine Ar ?_
  refine Pv (T_nil ?_)
  have S33 := S31.drop 0
  exact ⟨((l.length + 63) / 64) - (j + 1), [(0, .slice aa0 l.length cc0), (3, .slice a27 (j + 1) c28), (4, .int .i64 ((64 * (j + 1) : Nat) : Int))], by omega, ⟨rfl, rfl, ciI, trivial⟩, j + 1, (SG ++ [((l.drop (64 * j)).take ((min l.length ((64 * j) + 64)) - (64 * j)))]), a27, c28, _, G3, rfl, (by omega), (by rw [List.length_append, hsl]; rfl), (by exact seg_step hsl hsx (by simp only [List.length_take, List.length_drop]; omega)), rfl, hl4, S33, rs32, hc30⟩
 refine W_exit (Wr ?_)
 iterate 2 refine Pv ?_
 refine T_nil (W_ret ?_)
 refine ⟨_, ⟨_, _, rfl, rfl, rfl⟩, ?_⟩
 obtain rfl : SG.length = j := hsl
 obtain ⟨G35, hl36, S34, r37⟩ := S11.stillRow 0 rfl
 have r38 := RdL.mk r37 (rs9.mono hl36)
 exact ⟨_, _, SG, rfl, (r38).mono S34.fin, by omega, hsx, S34.below⟩


theorem crypt_ok {H : Hp} {w : World} (hH : H.le (hw w)) {l : List UInt8} {aa0 : Option Addr} {nn0 cc0 : Nat} (hv : Rd H (.slice aa0 nn0 cc0) nn0 1 (l.map bV)) (hl : l.length ≤ 1000) :
  Calls Tryd.prog 103 #[.slice aa0 nn0 cc0] w fun e w' => ∃ h : List UInt8, h.length = 32 ∧ e = .returned (hV h) ∧ Below w.heap.size w w' := by
 obtain rfl : nn0 = l.length := hv.lenB
 have hvcap : l.length ≤ cc0 := hv.capOf
 refine enter1 _ Tryd.func103 rfl Tryd.ntmps103 Tryd.results103 rfl ?_
 have S0 := St.start w hH
 refine Wr (Ae S0 fun b1 w2 S3 => (Nr ?_))
 refine Pv ?_
 refine Cs g_aumbry_aumbryref18_segments ((segs_ok S3.le hv (by omega)).mono ?_)
 rintro e w8 ⟨a4, c5, SG, rfl, r6, hsl, hsx, hB7⟩
 obtain ⟨G10, eG12⟩ : ∃ G, G = F.ext H w2.heap.size w8 := ⟨_, rfl⟩
 obtain ⟨hl11, S9⟩ := S3.ext hB7
 rw [← eG12] at hl11 S9 r6
 refine ⟨_, rfl, trivial, ?_⟩
 have HX1 : ∀ x ∈ SG, x.length < 1000 := seg_lt hsl hsx
 refine Cs g_aumbry_aumbryref13_Leaves ((bleavesR_ok S9.le r6 (by omega) HX1).mono ?_)
 rintro e w18 ⟨a13, c14, hc15, rfl, ho16, hB17⟩
 have S19 := S9.own hB17 ho16
 refine ⟨_, rfl, trivial, ?_⟩
 have hlv : (leavesH SG SG.length).length = SG.length := leavesH_len _
 obtain ⟨G21, hl22, S20, r23⟩ := S19.stillRow 0 rfl
 have r24 := RdH.mk (leavesH_all _ _) (by decide) r23
 refine Cs g_aumbry_aumbryref07_Root ((rootR_ok S20.le r24 (by omega)).mono ?_)
 rintro e w26 ⟨rfl, hB25⟩
 have S27 := S20.call hB25
 refine ⟨_, rfl, trivial, ?_⟩
 refine T_storeFS 0 S27 (fun _ _ => trivial) rfl rfl rfl rfl rfl rfl rfl rfl rfl (hVs (root_len r24.1)) (hVs (root_len r24.1)) (one_hA _) fun w28 S29 => (T_nil (W_ret ?_))
 refine ⟨_, ⟨_, _, _, rfl, rfl, run_loadVarA rfl rfl (hVs (root_len r24.1)) (S29.cells 0 rfl), rfl⟩, ?_⟩
 exact ⟨_, root_len (leavesH_all _ _), rfl, S29.below⟩


set_option maxHeartbeats 2000000 in
theorem shares_ok {H : Hp} {w : World} (hH : H.le (hw w)) {l : List UInt8} {aa0 : Option Addr} {nn0 cc0 : Nat} (hv : Rd H (.slice aa0 nn0 cc0) nn0 1 (l.map bV)) (k n : Nat) (hl : 1 ≤ l.length ∧ l.length ≤ 200) (hk : 1 ≤ k ∧ k ≤ 5) (hn : k ≤ n ∧ n ≤ 5) :
  Calls Tryd.prog 84 #[.slice aa0 nn0 cc0, .int .i64 ((k : Nat) : Int), .int .i64 ((n : Nat) : Int)] w fun e w' => ∃ a c E ch, e = .returned (.tuple #[.slice a n c, qV ((k : Nat) : Int) ((n : Nat) : Int) ((l.length : Nat) : Int) 64 ch (Go.Au.root (tab n fun p => Go.Au.root (leavesH (blk E p) (blk E p).length)))]) ∧ ch.length = 32 ∧ RdSh (F.ext H w.heap.size w') (.slice a n c) n (packU ((k : Nat) : Int) ((n : Nat) : Int) ((l.length : Nat) : Int) 64 ch (Go.Au.root (tab n fun p => Go.Au.root (leavesH (blk E p) (blk E p).length)))) (fun p => Go.Au.beside (rowP (tab n fun p => Go.Au.root (leavesH (blk E p) (blk E p).length))) p (lg (tab n fun p => Go.Au.root (leavesH (blk E p) (blk E p).length)).length)) (blk E) ∧ EOK k n l.length E ∧ Below w.heap.size w w' := by
 obtain rfl : nn0 = l.length := hv.lenB
 have hvcap : l.length ≤ cc0 := hv.capOf
 refine enter3 _ Tryd.func84 rfl Tryd.ntmps84 Tryd.results84 rfl ?_
 have S0 := St.start w hH
 refine Wr (Pv ?_)
 refine Ae S0 fun b51 w52 S53 => (Nr ?_)
 refine Pv ?_
 refine T_makeS n S53 (fun _ _ => trivial) rfl rfl rfl rfl rfl rfl rfl rfl rfl rfl (by omega) (by omega) (by show 80 * _ ≤ _; omega) (by unfold maxLen; omega) fun b54 w55 S56 => ?_
 have S57 := S56.toRow (size := 4) (m := n) (xs := shrC n (numF 0 0) nilF nilF nilF) 0 rfl (made_sh rfl) shrC_len (by unfold maxLen; omega)
 have S58 := S57.nilRowsP (p := [.row 45 4 (.slice (some ⟨b54, 0, none⟩) n n) n (shrC n (numF 0 0) nilF nilF nilF), .blk b51 (qV 0 0 0 0 (List.replicate 32 0) (List.replicate 32 0) : Value).cells 25]) (its := []) 26 n
 refine Pv (Nr ?_)
 refine Pv ?_
 refine Cs g_aumbry_aumbryref18_segments ((segs_ok S58.le hv (by omega)).mono ?_)
 rintro e w63 ⟨a59, c60, SG, rfl, r61, hsl, hsx, hB62⟩
 obtain ⟨G65, eG67⟩ : ∃ G, G = F.ext H w55.heap.size w63 := ⟨_, rfl⟩
 obtain ⟨hl66, S64⟩ := S58.ext hB62
 rw [← eG67] at hl66 S64 r61
 refine ⟨_, rfl, trivial, ?_⟩
 refine Pv (T_nil (W_seq (Wr ?_)))
 iterate 3 refine Pv ?_
 refine T_nil (W_block ?_)
 refine W_loop (fun M ρ w' => ∃ (j : Nat) (b : Nat → Value) (c : Nat → List Value) (E : List (List (List UInt8))) (G68 : Hp), M = SG.length - j ∧ j ≤ SG.length ∧ E.length = j ∧ ((∀ t, t < j → MShape n (qn k (min (l.length - 64 * t) 64)) (E.getD t []))) ∧ ρ = [(0, .slice aa0 l.length cc0), (1, .int .i64 ((k : Nat) : Int)), (2, .int .i64 ((n : Nat) : Int)), (7, .pointer (some ⟨b51, 0, none⟩)), (8, .slice (some ⟨b54, 0, none⟩) n n), (9, .slice a59 SG.length c60), (22, .int .i64 ((SG.length : Nat) : Int)), (23, .int .i64 (j : Int))] ∧ G65.le G68 ∧ St w H G68 (.row 45 4 (.slice (some ⟨b54, 0, none⟩) n n) n (shrC n (numF j 0) nilF nilF b) :: .blk b51 (qV 0 0 0 0 (List.replicate 32 0) (List.replicate 32 0) : Value).cells 25 :: (rws 26 n b (lenF j 0) c ++ [])) w' ∧ (∀ p, p < n → Rds G68 (c p) (blk E p)))
  (SG.length - 0) [(0, .slice aa0 l.length cc0), (1, .int .i64 ((k : Nat) : Int)), (2, .int .i64 ((n : Nat) : Int)), (7, .pointer (some ⟨b51, 0, none⟩)), (8, .slice (some ⟨b54, 0, none⟩) n n), (9, .slice a59 SG.length c60), (22, .int .i64 ((SG.length : Nat) : Int)), (23, .int .i64 ((0 : Nat) : Int))] ⟨rfl, ciI, ciI, rfl, rfl, rfl, ciI, ciI, trivial⟩ ⟨0, nilF, (fun _ => []), [], G65, rfl, (by exact Nat.zero_le _), (by rfl), (by exact fun t h => absurd h (Nat.not_lt_zero t)), rfl, Hp.le.refl _, S64, fun _ _ => Rds.nil _⟩ ?_
 rintro M ρ w70 ⟨j, b, c, E, G68, rfl, hp72, hEl, hEx, rfl, hl69, S71, hbk⟩
 refine Wr (Pv (T_nil (W_seq ?_)))
 refine Aa (fun h75 => ?_) (fun h75 => ?_)
 ·refine W_skip (W_seq (W_block (Wr ?_)))
  iterate 2 refine Pv ?_
  refine Nr ?_
  iterate 2 refine Pv ?_
  obtain ⟨hs79, r80, r81⟩ := (r61.mono hl69)
  refine Ah j r80 fun b76 o77 hc78 => ?_
  obtain ⟨a84, c85, hc87, hv83, r86⟩ := r81.at j (by omega)
  have hc88 := hc78 0 (.slice a84 (SG.getD j []).length c85) (by simpa using hv83)
  simp only [Nat.add_zero] at hc88
  refine Ac S71 hc88 ?_
  iterate 2 refine Pv ?_
  have hsg : (SG.getD j []).length = min (l.length - 64 * j) 64 := hsx j (by omega)
  refine Cs g_aumbry_aumbryref04_Encode ((rencode_ok S71.le r86 k n (by omega) (by omega) (by omega)).mono ?_)
  rintro e w93 ⟨a89, c90, q, m, D, rfl, r91, hDl, hDx, hqk, hm, hB92⟩
  obtain ⟨G95, eG97⟩ : ∃ G, G = F.ext G68 w70.heap.size w93 := ⟨_, rfl⟩
  obtain ⟨hl96, S94⟩ := S71.ext hB92
  rw [← eG97] at hl96 S94 r91
  refine ⟨_, rfl, trivial, ?_⟩
  refine Pv (Nr ?_)
  iterate 3 refine Pv ?_
  refine T_nil (W_block ?_)
  refine W_loop (fun M ρ w' => ∃ (i : Nat) (b1 : Nat → Value) (c1 : Nat → List Value) (G98 : Hp), M = n - i ∧ i ≤ n ∧ ρ = [(0, .slice aa0 l.length cc0), (1, .int .i64 ((k : Nat) : Int)), (2, .int .i64 ((n : Nat) : Int)), (7, .pointer (some ⟨b51, 0, none⟩)), (8, .slice (some ⟨b54, 0, none⟩) n n), (9, .slice a59 SG.length c60), (11, .slice a89 n c90), (22, .int .i64 ((SG.length : Nat) : Int)), (23, .int .i64 (j : Int)), (34, .int .i64 ((n : Nat) : Int)), (35, .int .i64 (i : Int))] ∧ G95.le G98 ∧ St w H G98 (.row 45 4 (.slice (some ⟨b54, 0, none⟩) n n) n (shrC n (numF j i) nilF nilF b1) :: .blk b51 (qV 0 0 0 0 (List.replicate 32 0) (List.replicate 32 0) : Value).cells 25 :: (rws 26 n b1 (lenF j i) c1 ++ [])) w' ∧ (∀ p, p < n → Rds G98 (c1 p) (blk (if p < i then E ++ [D] else E) p)))
   (n - 0) [(0, .slice aa0 l.length cc0), (1, .int .i64 ((k : Nat) : Int)), (2, .int .i64 ((n : Nat) : Int)), (7, .pointer (some ⟨b51, 0, none⟩)), (8, .slice (some ⟨b54, 0, none⟩) n n), (9, .slice a59 SG.length c60), (11, .slice a89 n c90), (22, .int .i64 ((SG.length : Nat) : Int)), (23, .int .i64 (j : Int)), (34, .int .i64 ((n : Nat) : Int)), (35, .int .i64 ((0 : Nat) : Int))] ⟨rfl, ciI, ciI, rfl, rfl, rfl, rfl, ciI, ciI, ciI, ciI, trivial⟩ ⟨0, b, c, G95, rfl, (by exact Nat.zero_le _), rfl, Hp.le.refl _, S94, fun p hp => by rw [if_neg (Nat.not_lt_zero p)]; exact (hbk p hp).mono hl96⟩ ?_
  rintro M ρ w100 ⟨i, b1, c1, G98, rfl, hp102, rfl, hl99, S101, hbk1⟩
  refine Wr (Pv (T_nil (W_seq ?_)))
  refine Aa (fun h103 => ?_) (fun h103 => ?_)
  ·refine W_skip (W_seq (W_block (Wr ?_)))
   iterate 2 refine Pv ?_
   refine Nr ?_
   iterate 3 refine Pv ?_
   refine Ai (hm := by show 0 + Int.toNat _ * 4 = _; omega) (i * 4) ?_
   refine T_fldm (i * 4 + 0) rfl rfl rfl rfl rfl rfl (by decide) rfl rfl rfl ?_
   refine T_storeRow 0 (shrC n (numF j (i + 1)) nilF nilF b1) S101 (fun _ _ => trivial) rfl rfl rfl rfl rfl rfl rfl rfl rfl (by show _ + 1 ≤ _ * 4; omega) (one_shr rfl rfl) (put_num (by omega) rfl) fun w104 S105 => (T_nil ?_)
   refine W_tree (plan Tryd.prog) (.step 0 (.step 1 (.step 2 (.step 3 (.step 4 (.step 5 (.step 7 (.step 8 (.step 9 (.step 10 (.fork 6 11 (.step 11 (.step 12 (.step 13 (.step 14 (.step 15 .done))))) (.step 6 (.step 12 (.step 13 (.step 14 (.step 15 .done)))))))))))))))) rfl (by kernel_rfl) trivial ?_
   have S106 := S105.drew
   iterate 4 (refine TT_step rfl ?_; refine Pv ?_; refine T_nil ?_)
   refine TT_step rfl (Ai (hm := by show 0 + Int.toNat _ * 4 = _; omega) (i * 4) ?_)
   refine Nt rfl (T_fldm (i * 4 + 3) rfl rfl rfl rfl rfl rfl (by decide) rfl rfl rfl ?_)
   iterate 2 (refine T_nil ?_; refine TT_step rfl ?_; refine Pv ?_)
   refine Nt rfl ?_
   obtain ⟨hs110, r111, r112⟩ := (r91.mono hl99)
   refine Ah i r111 fun b107 o108 hc109 => ?_
   obtain ⟨a115, c116, hc118, hv114, r117⟩ := r112.at i (by omega)
   have hc119 := hc109 0 (.slice a115 (D.getD i []).length c116) (by simpa using hv114)
   simp only [Nat.add_zero] at hc119
   refine Nt rfl (Ac S106 hc119 (T_nil ?_))
   refine TT_fork rfl rfl ?_ ?_
   ·refine T_load rfl rfl rfl rfl rfl rfl rfl (S106.rowCell 0 rfl (shrC_3 (by omega))) ?_
    refine Nt rfl ?_
    have rs124 : Rds G98 [.slice a115 (D.getD i []).length c116] [(D.getD i [])] := Rds.cons (Rd.canonB r117) (Rds.nil _)
    refine Af (hone := by simp [Value.cells]; rfl) [.slice a115 (D.getD i []).length c116] fun a120 w121 hB122 ho123 => ?_
    have S125 := S106.own hB122 ho123
    refine ⟨trivial, ?_⟩
    refine Nt rfl (T_appendS (i + 3) (j + 1) (c1 i ++ [Value.slice a115 (D.getD i []).length c116]) S125 (fun _ _ => trivial) (rws_at (by omega)) rfl rfl rfl rfl rfl rfl rfl rfl rfl rfl rfl rfl rfl (S125.rd 0 rfl) (one_all rfl) (by rw [lenF_self]) rfl (by unfold maxLen; omega) (by show _ * 24 ≤ _; omega) fun a126 c127 w128 hc129 S130 => ?_)
    have S131 := St.reTail (p := [.row 26 1 (.slice a120 1 1) 1 [.slice a115 (D.getD i []).length c116], .row 45 4 (.slice (some ⟨b54, 0, none⟩) n n) n (shrC n (numF j (i + 1)) nilF nilF b1), .blk b51 (qV 0 0 0 0 (List.replicate 32 0) (List.replicate 32 0) : Value).cells 25]) (b := rws 26 n (upd b1 i (.slice a126 (j + 1) c127)) (lenF j (i + 1)) (upd c1 i (c1 i ++ [Value.slice a115 (D.getD i []).length c116])) ++ []) S130 ((rws_set (by omega)).trans (by rw [step_len]))
    refine Nt rfl (Ai (hm := by show 0 + Int.toNat _ * 4 = _; omega) (i * 4) ?_)
    refine Nt rfl (T_fldm (i * 4 + 3) rfl rfl rfl rfl rfl rfl (by decide) rfl rfl rfl ?_)
    refine Nt rfl (T_storeRow 1 (shrC n (numF j (i + 1)) nilF nilF (upd b1 i (.slice a126 (j + 1) c127))) S131 (fun _ _ => trivial) rfl rfl rfl rfl rfl rfl rfl rfl rfl (by show _ + 1 ≤ _ * 4; omega) (one_shr rfl rfl) (put_blk (by omega) rfl rfl) fun w132 S133 => (T_nil (TT_done (W_region ?_))))
    refine Ar ?_
    refine Pv (T_nil ?_)
    have S134 := S133.drop 0
    exact ⟨n - (i + 1), [(0, .slice aa0 l.length cc0), (1, .int .i64 ((k : Nat) : Int)), (2, .int .i64 ((n : Nat) : Int)), (7, .pointer (some ⟨b51, 0, none⟩)), (8, .slice (some ⟨b54, 0, none⟩) n n), (9, .slice a59 SG.length c60), (11, .slice a89 n c90), (22, .int .i64 ((SG.length : Nat) : Int)), (23, .int .i64 (j : Int)), (34, .int .i64 ((n : Nat) : Int)), (35, .int .i64 ((i + 1 : Nat) : Int))], by omega, ⟨rfl, ciI, ciI, rfl, rfl, rfl, rfl, ciI, ciI, ciI, ciI, trivial⟩, i + 1, (upd b1 i (.slice a126 (j + 1) c127)), (upd c1 i (c1 i ++ [Value.slice a115 (D.getD i []).length c116])), G98, rfl, (by omega), rfl, hl99, S134, rds_step (fun p hp => (hbk1 p hp).mono (Hp.le.refl _)) (by omega) r117⟩
   have rs139 : Rds G98 [.slice a115 (D.getD i []).length c116] [(D.getD i [])] := Rds.cons (Rd.canonB r117) (Rds.nil _)
   refine Af (hone := by simp [Value.cells]; rfl) [.slice a115 (D.getD i []).length c116] fun a135 w136 hB137 ho138 => ?_
   have S140 := S106.own hB137 ho138
   refine ⟨trivial, ?_⟩
   refine Nt rfl (T_load rfl rfl rfl rfl rfl rfl rfl (S140.rowCell 1 rfl (shrC_3 (by omega))) ?_)
   refine Nt rfl (T_appendS (i + 3) (j + 1) (c1 i ++ [Value.slice a115 (D.getD i []).length c116]) S140 (fun _ _ => trivial) (rws_at (by omega)) rfl rfl rfl rfl rfl rfl rfl rfl rfl rfl rfl rfl rfl (S140.rd 0 rfl) (one_all rfl) (by rw [lenF_self]) rfl (by unfold maxLen; omega) (by show _ * 24 ≤ _; omega) fun a141 c142 w143 hc144 S145 => ?_)
   have S146 := St.reTail (p := [.row 26 1 (.slice a135 1 1) 1 [.slice a115 (D.getD i []).length c116], .row 45 4 (.slice (some ⟨b54, 0, none⟩) n n) n (shrC n (numF j (i + 1)) nilF nilF b1), .blk b51 (qV 0 0 0 0 (List.replicate 32 0) (List.replicate 32 0) : Value).cells 25]) (b := rws 26 n (upd b1 i (.slice a141 (j + 1) c142)) (lenF j (i + 1)) (upd c1 i (c1 i ++ [Value.slice a115 (D.getD i []).length c116])) ++ []) S145 ((rws_set (by omega)).trans (by rw [step_len]))
   refine Nt rfl (Ai (hm := by show 0 + Int.toNat _ * 4 = _; omega) (i * 4) ?_)
   refine Nt rfl (T_fldm (i * 4 + 3) rfl rfl rfl rfl rfl rfl (by decide) rfl rfl rfl ?_)
   refine Nt rfl (T_storeRow 1 (shrC n (numF j (i + 1)) nilF nilF (upd b1 i (.slice a141 (j + 1) c142))) S146 (fun _ _ => trivial) rfl rfl rfl rfl rfl rfl rfl rfl rfl (by show _ + 1 ≤ _ * 4; omega) (one_shr rfl rfl) (put_blk (by omega) rfl rfl) fun w147 S148 => (T_nil (TT_done (W_region ?_))))
   refine Ar ?_
   refine Pv (T_nil ?_)
   have S149 := S148.drop 0
   exact ⟨n - (i + 1), [(0, .slice aa0 l.length cc0), (1, .int .i64 ((k : Nat) : Int)), (2, .int .i64 ((n : Nat) : Int)), (7, .pointer (some ⟨b51, 0, none⟩)), (8, .slice (some ⟨b54, 0, none⟩) n n), (9, .slice a59 SG.length c60), (11, .slice a89 n c90), (22, .int .i64 ((SG.length : Nat) : Int)), (23, .int .i64 (j : Int)), (34, .int .i64 ((n : Nat) : Int)), (35, .int .i64 ((i + 1 : Nat) : Int))], by omega, ⟨rfl, ciI, ciI, rfl, rfl, rfl, rfl, ciI, ciI, ciI, ciI, trivial⟩, i + 1, (upd b1 i (.slice a141 (j + 1) c142)), (upd c1 i (c1 i ++ [Value.slice a115 (D.getD i []).length c116])), G98, rfl, (by omega), rfl, hl99, S149, rds_step (fun p hp => (hbk1 p hp).mono (Hp.le.refl _)) (by omega) r117⟩
  refine W_exit (W_region (Ar ?_))
  refine Pv (T_nil ?_)
  obtain rfl : n = i := by omega
  rw [next_num, next_len] at S101
  exact ⟨SG.length - (j + 1), [(0, .slice aa0 l.length cc0), (1, .int .i64 ((k : Nat) : Int)), (2, .int .i64 ((n : Nat) : Int)), (7, .pointer (some ⟨b51, 0, none⟩)), (8, .slice (some ⟨b54, 0, none⟩) n n), (9, .slice a59 SG.length c60), (22, .int .i64 ((SG.length : Nat) : Int)), (23, .int .i64 ((j + 1 : Nat) : Int))], by omega, ⟨rfl, ciI, ciI, rfl, rfl, rfl, ciI, ciI, trivial⟩, j + 1, b1, c1, (E ++ [D]), G98, rfl, (by omega), (by rw [List.length_append, hEl]; rfl), (by exact e_step hEl hEx ⟨hDl, fun x hx => (hDx x hx).trans (qn_of (by omega) (hqk.trans (by rw [hsg])) hm)⟩), rfl, (hl69.trans (hl96.trans hl99)), S101, fun p hp => by have h := hbk1 p hp; rw [if_pos hp] at h; exact h.mono (Hp.le.refl _)⟩
 refine W_exit (W_seq ?_)
 obtain rfl : SG.length = j := by omega
 have hSG1 : 0 < SG.length := by omega
 rw [done_num hSG1] at S71
 obtain ⟨G150, hl151, S152, hfr⟩ := S71.rwsStillP (p := [.row 45 4 (.slice (some ⟨b54, 0, none⟩) n n) n (shrC n iF nilF nilF b), .blk b51 (qV 0 0 0 0 (List.replicate 32 0) (List.replicate 32 0) : Value).cells 25]) (its := [])
 have hB : ∀ p, p < n → RdL G150 (b p) (blk E p) := fun p hp => RdL.mk (hfr p hp) ((hbk p hp).mono hl151)
 have hEk : ∀ p, p < n → ∀ x ∈ blk E p, x.length < 1000 := fun p hp => blkE_lt hEl hEx hp
 refine W_region (Pv (T_nil (W_seq (Wr ?_))))
 iterate 3 refine Pv ?_
 refine T_nil (W_block ?_)
 have S153 := S152.nilRow 23 32
 refine W_loop (fun M ρ w' => ∃ (i : Nat) (a156 : Option Addr) (c157 : Nat) (G154 : Hp), M = n - i ∧ i ≤ n ∧ ρ = [(0, .slice aa0 l.length cc0), (1, .int .i64 ((k : Nat) : Int)), (2, .int .i64 ((n : Nat) : Int)), (7, .pointer (some ⟨b51, 0, none⟩)), (8, .slice (some ⟨b54, 0, none⟩) n n), (13, .slice a156 i c157), (61, .int .i64 ((n : Nat) : Int)), (62, .int .i64 (i : Int))] ∧ G150.le G154 ∧ St w H G154 [.row 23 32 (.slice a156 i c157) i (hcells (tab i fun p => Go.Au.root (leavesH (blk E p) (blk E p).length))), .row 45 4 (.slice (some ⟨b54, 0, none⟩) n n) n (shrC n iF nilF nilF b), .blk b51 (qV 0 0 0 0 (List.replicate 32 0) (List.replicate 32 0) : Value).cells 25] w' ∧ (∀ y ∈ (tab i fun p => Go.Au.root (leavesH (blk E p) (blk E p).length)), y.length = 32) ∧ i ≤ c157)
  (n - 0) [(0, .slice aa0 l.length cc0), (1, .int .i64 ((k : Nat) : Int)), (2, .int .i64 ((n : Nat) : Int)), (7, .pointer (some ⟨b51, 0, none⟩)), (8, .slice (some ⟨b54, 0, none⟩) n n), (13, .slice none 0 0), (61, .int .i64 ((n : Nat) : Int)), (62, .int .i64 ((0 : Nat) : Int))] ⟨rfl, ciI, ciI, rfl, rfl, rfl, ciI, ciI, trivial⟩ ⟨0, none, 0, G150, rfl, (by exact Nat.zero_le _), rfl, Hp.le.refl _, S153, (fun _ h => by cases h), (Nat.le_refl _)⟩ ?_
 rintro M ρ w160 ⟨i, a156, c157, G154, rfl, hp162, rfl, hl155, S161, hh159, hc158⟩
 refine Wr (Pv (T_nil (W_seq ?_)))
 refine Aa (fun h163 => ?_) (fun h163 => ?_)
 ·refine W_skip (W_seq (W_block (Wr ?_)))
  iterate 2 refine Pv ?_
  refine T_nil (W_region ?_)
  iterate 3 refine Pv ?_
  refine Ai (hm := by show 0 + Int.toNat _ * 4 = _; omega) (i * 4) ?_
  have r168 := (hB i (by omega)).mono hl155
  obtain ⟨a164, c165, e166, hc167⟩ := r168.shape
  rw [e166] at r168
  refine T_loadA #[iF i, nilF i, nilF i, b i] rfl rfl rfl rfl rfl rfl rfl rfl rfl (fun q v hq => S161.rowCell 1 rfl (shrC_agg (by omega) q v hq)) ?_
  refine T_re (v' := .agg #[.int .i64 ((i : Nat) : Int), .slice none 0 0, .slice none 0 0, .slice a164 (blk E i).length c165]) (by rw [e166]; rfl) ?_
  have hbl := blk_len E i
  have HX1 := hEk i (by omega)
  refine Cs g_aumbry_aumbryref13_ShareLeaf ((shareLeafR_ok S161.le ((i : Nat) : Int) (nilB _) (nilH _) r168 (by omega) HX1).mono ?_)
  rintro e w170 ⟨rfl, hB169⟩
  have S171 := S161.call hB169
  refine ⟨_, rfl, trivial, ?_⟩
  refine T_litS (hcells [Go.Au.root (leavesH (blk E i) (blk E i).length)]) rfl rfl rfl rfl rfl rfl rfl rfl rfl rfl rfl rfl rfl (one_h (root_len (leavesH_all _ _))) (by simp [hcells, hV, Value.cells]) fun a172 w173 hB174 ho175 => ?_
  have S176 := S171.own hB174 ho175
  refine ⟨trivial, ?_⟩
  have hD177 : ((tab i fun p => Go.Au.root (leavesH (blk E p) (blk E p).length)) ++ [Go.Au.root (leavesH (blk E i) (blk E i).length)]) = (tab (i + 1) fun p => Go.Au.root (leavesH (blk E p) (blk E p).length)) := tab_snoc
  refine Ag (h1 := by exact one_hcells _) (hn' := by first | rfl | (simp; done) | (simp; omega) | omega) (hx' := by rw [← hD177]; simp [hcells_append, hcells]) (hbytes := by show _ * 32 ≤ _; omega) 1 (i + 1) (hcells (tab (i + 1) fun p => Go.Au.root (leavesH (blk E p) (blk E p).length))) S176 (S176.rd 0 rfl) fun a178 c179 w180 hc181 S182 => ?_
  have hh183 : ∀ y ∈ (tab (i + 1) fun p => Go.Au.root (leavesH (blk E p) (blk E p).length)), y.length = 32 := by rw [← hD177]; exact (all_app hh159 (all_h1 (root_len (leavesH_all _ _))))
  refine Pv (T_nil (W_region ?_))
  refine Ar ?_
  refine Pv (T_nil ?_)
  have S184 := S182.drop 0
  exact ⟨n - (i + 1), [(0, .slice aa0 l.length cc0), (1, .int .i64 ((k : Nat) : Int)), (2, .int .i64 ((n : Nat) : Int)), (7, .pointer (some ⟨b51, 0, none⟩)), (8, .slice (some ⟨b54, 0, none⟩) n n), (13, .slice a178 (i + 1) c179), (61, .int .i64 ((n : Nat) : Int)), (62, .int .i64 ((i + 1 : Nat) : Int))], by omega, ⟨rfl, ciI, ciI, rfl, rfl, rfl, ciI, ciI, trivial⟩, i + 1, a178, c179, G154, rfl, (by omega), rfl, hl155, S184, hh183, hc181⟩
 refine W_exit (W_seq ?_)
 obtain rfl : n = i := by omega
 have hLl : (tab n fun p => Go.Au.root (leavesH (blk E p) (blk E p).length)).length = n := tab_len
 refine W_region ?_
 iterate 5 refine Pv ?_
 refine Cs g_aumbry_aumbryref18_Crypt ((crypt_ok S161.le (hv.mono (hl66.trans (hl69.trans (hl151.trans hl155)))) (by omega)).mono ?_)
 rintro e w186 ⟨ch, hch, rfl, hB185⟩
 have S187 := S161.call hB185
 refine ⟨_, rfl, trivial, ?_⟩
 refine Pv ?_
 obtain ⟨G189, hl190, S188, r191⟩ := S187.stillRow 0 rfl
 have r192 := RdH.mk hh159 (by decide) r191
 refine Cs g_aumbry_aumbryref07_Root ((rootR_ok S188.le r192 (by omega)).mono ?_)
 rintro e w194 ⟨rfl, hB193⟩
 have S195 := S188.call hB193
 refine ⟨_, rfl, trivial, ?_⟩
 refine T_buildS (cells := (qV ((k : Nat) : Int) ((n : Nat) : Int) ((l.length : Nat) : Int) (64 : Int) ch (Go.Au.root (tab n fun p => Go.Au.root (leavesH (blk E p) (blk E p).length))) : Value).cells) rfl rfl rfl rfl rfl rfl (fill_q32 hch (root_len r192.1)) rfl rfl rfl (Ae S195 fun b196 w197 S198 => ?_)
 refine T_storeFS 0 S198 (fun _ _ => trivial) rfl rfl rfl rfl rfl rfl rfl rfl rfl (qV_sz (q_len hch (root_len r192.1) rfl)) (qV_sz (q_len hch (root_len r192.1) rfl)) (qV_one) fun w199 S200 => (T_nil (W_seq (Wr ?_)))
 iterate 3 refine Pv ?_
 refine T_nil (W_block ?_)
 refine W_loop (fun M ρ w' => ∃ (i : Nat) (fb fc : Nat → Value) (G201 : Hp), M = n - i ∧ i ≤ n ∧ ρ = [(7, .pointer (some ⟨b51, 0, none⟩)), (8, .slice (some ⟨b54, 0, none⟩) n n), (13, .slice a156 n c157), (15, .pointer (some ⟨b196, 0, none⟩)), (84, .int .i64 ((n : Nat) : Int)), (85, .int .i64 (i : Int))] ∧ G189.le G201 ∧ St w H G201 [.blk b196 (qV ((k : Nat) : Int) ((n : Nat) : Int) ((l.length : Nat) : Int) (64 : Int) ch (Go.Au.root (tab n fun p => Go.Au.root (leavesH (blk E p) (blk E p).length))) : Value).cells 25, .row 45 4 (.slice (some ⟨b54, 0, none⟩) n n) n (shrC n iF fb fc b), .blk b51 (qV 0 0 0 0 (List.replicate 32 0) (List.replicate 32 0) : Value).cells 25] w' ∧ (∀ p, p < i → Rd G201 (fb p) (packU ((k : Nat) : Int) ((n : Nat) : Int) ((l.length : Nat) : Int) 64 ch (Go.Au.root (tab n fun p => Go.Au.root (leavesH (blk E p) (blk E p).length)))).length 1 ((packU ((k : Nat) : Int) ((n : Nat) : Int) ((l.length : Nat) : Int) 64 ch (Go.Au.root (tab n fun p => Go.Au.root (leavesH (blk E p) (blk E p).length)))).map bV) ∧ RdH G201 (fc p) 32 (Go.Au.beside (rowP (tab n fun p => Go.Au.root (leavesH (blk E p) (blk E p).length))) p (lg (tab n fun p => Go.Au.root (leavesH (blk E p) (blk E p).length)).length))))
  (n - 0) [(7, .pointer (some ⟨b51, 0, none⟩)), (8, .slice (some ⟨b54, 0, none⟩) n n), (13, .slice a156 n c157), (15, .pointer (some ⟨b196, 0, none⟩)), (84, .int .i64 ((n : Nat) : Int)), (85, .int .i64 ((0 : Nat) : Int))] ⟨rfl, rfl, rfl, rfl, ciI, ciI, trivial⟩ ⟨0, nilF, nilF, G189, rfl, (by exact Nat.zero_le _), rfl, Hp.le.refl _, S200, fun p hp => absurd hp (Nat.not_lt_zero p)⟩ ?_
 rintro M ρ w203 ⟨i, fb, fc, G201, rfl, hp205, rfl, hl202, S204, huf⟩
 refine Wr (Pv (T_nil (W_seq ?_)))
 refine Aa (fun h206 => ?_) (fun h206 => ?_)
 ·refine W_skip (W_seq (W_block (Wr ?_)))
  iterate 2 refine Pv ?_
  refine Nr ?_
  iterate 2 refine Pv ?_
  refine T_loadFS 0 S204 rfl rfl rfl rfl rfl rfl rfl rfl rfl (qV_sz (q_len hch (root_len r192.1) rfl)) (Cs g_aumbry_aumbryref13_Pack ((packUR_ok S204.le ((k : Nat) : Int) ((n : Nat) : Int) ((l.length : Nat) : Int) (64 : Int) (s := ch) (t := Go.Au.root (tab n fun p => Go.Au.root (leavesH (blk E p) (blk E p).length))) hch (root_len r192.1) (by omega) (by omega) (by omega) (by omega)).mono ?_))
  rintro e w212 ⟨a207, c208, hc209, rfl, ho210, hB211⟩
  have hl213 := packU_len ((k : Nat) : Int) ((n : Nat) : Int) ((l.length : Nat) : Int) (64 : Int) (s := ch) (t := Go.Au.root (tab n fun p => Go.Au.root (leavesH (blk E p) (blk E p).length))) (by have := hch; omega) (by have := (root_len r192.1); omega)
  have S214 := S204.own hB211 ho210
  refine ⟨_, rfl, trivial, ?_⟩
  refine Ai (hm := by show 0 + Int.toNat _ * 4 = _; omega) (i * 4) ?_
  refine T_fldm (i * 4 + 1) rfl rfl rfl rfl rfl rfl (by decide) rfl rfl rfl ?_
  obtain ⟨G216, hl217, S215, r218⟩ := S214.stillRow 0 rfl
  refine T_storeRow 1 (shrC n iF (upd fb i (.slice a207 ((packU ((k : Nat) : Int) ((n : Nat) : Int) ((l.length : Nat) : Int) (64 : Int) ch (Go.Au.root (tab n fun p => Go.Au.root (leavesH (blk E p) (blk E p).length)))).length) c208)) fc b) S215 (fun _ _ => trivial) rfl rfl rfl rfl rfl rfl rfl rfl rfl (by show _ + 1 ≤ _ * 4; omega) (one_shr rfl rfl) (put_ueb (by omega) rfl rfl) fun w219 S220 => (T_nil (W_region ?_))
  iterate 4 refine Pv ?_
  refine Cs g_aumbry_aumbryref07_Proof ((proofR_ok S220.le (i : Int) (r192.mono (hl202.trans hl217)) (by omega) (by omega)).mono ?_)
  rintro e w226 ⟨a221, c222, hc223, rfl, ho224, hB225⟩
  have S227 := S220.own hB225 ho224
  refine ⟨_, rfl, trivial, ?_⟩
  refine Ai (hm := by show 0 + Int.toNat _ * 4 = _; omega) (i * 4) ?_
  refine T_fldm (i * 4 + 2) rfl rfl rfl rfl rfl rfl (by decide) rfl rfl rfl ?_
  obtain ⟨G229, hl230, S228, r231⟩ := S227.stillRow 0 rfl
  have r232 := RdH.mk (beside_all (r192.mono (hl202.trans hl217)).1 (by omega) (Nat.le_refl _)) (by decide) r231
  refine T_storeRow 1 (shrC n iF (upd fb i (.slice a207 ((packU ((k : Nat) : Int) ((n : Nat) : Int) ((l.length : Nat) : Int) (64 : Int) ch (Go.Au.root (tab n fun p => Go.Au.root (leavesH (blk E p) (blk E p).length)))).length) c208)) (upd fc i (.slice a221 (lg (tab n fun p => Go.Au.root (leavesH (blk E p) (blk E p).length)).length) c222)) b) S228 (fun _ _ => trivial) rfl rfl rfl rfl rfl rfl rfl rfl rfl (by show _ + 1 ≤ _ * 4; omega) (one_shr rfl rfl) (put_prf (by omega) rfl rfl) fun w233 S234 => (T_nil (W_region ?_))
  refine Ar ?_
  refine Pv (T_nil ?_)
  exact ⟨n - (i + 1), [(7, .pointer (some ⟨b51, 0, none⟩)), (8, .slice (some ⟨b54, 0, none⟩) n n), (13, .slice a156 n c157), (15, .pointer (some ⟨b196, 0, none⟩)), (84, .int .i64 ((n : Nat) : Int)), (85, .int .i64 ((i + 1 : Nat) : Int))], by omega, ⟨rfl, rfl, rfl, rfl, ciI, ciI, trivial⟩, i + 1, (upd fb i (.slice a207 ((packU ((k : Nat) : Int) ((n : Nat) : Int) ((l.length : Nat) : Int) (64 : Int) ch (Go.Au.root (tab n fun p => Go.Au.root (leavesH (blk E p) (blk E p).length)))).length) c208)), (upd fc i (.slice a221 (lg (tab n fun p => Go.Au.root (leavesH (blk E p) (blk E p).length)).length) c222)), G229, rfl, (by omega), rfl, (hl202.trans (hl217.trans hl230)), S234, uf_step (fun p hp => ⟨(huf p hp).1.mono (hl217.trans hl230), (huf p hp).2.mono (hl217.trans hl230)⟩) (r218.mono hl230) r232⟩
 refine W_exit (W_seq (W_draw rfl (by kernel_rfl) ?_))
 have S235 := S204.drew
 refine Pv ?_
 refine T_loadFS 0 S235 rfl rfl rfl rfl rfl rfl rfl rfl rfl (qV_sz (q_len hch (root_len r192.1) rfl)) (Pv ?_)
 refine T_storeFS 2 S235 (fun _ _ => trivial) rfl rfl rfl rfl rfl rfl rfl rfl rfl (qV_sz (q_len hch (root_len r192.1) rfl)) (qV_sz (q_len hch (root_len r192.1) rfl)) (qV_one) fun w236 S237 => (T_nil (W_ret ?_))
 refine ⟨_, ⟨_, _, rfl, rfl, ⟨_, _, _, rfl, rfl, run_loadVarA rfl rfl (qV_sz (q_len hch (root_len r192.1) rfl)) (S237.cells 2 rfl), rfl⟩⟩, ?_⟩
 obtain rfl : n = i := by omega
 obtain ⟨G238, hl239, S240, r241⟩ := S237.stillRow 1 rfl
 exact ⟨_, _, E, ch, rfl, hch, RdSh.mk (r241.mono S240.fin) (fun p hp => ⟨((hB p hp).mono (hl155.trans (hl190.trans (hl202.trans hl239)))).mono S240.fin, ((huf p hp).1.mono hl239).mono S240.fin, ((huf p hp).2.mono hl239).mono S240.fin⟩), ⟨hEl.trans (hsl.trans (seg_n (by omega))), by rw [hEl]; exact hEx⟩, S240.below⟩

end Go.Proofs.YtmjmjjkigblbgaaDoor
