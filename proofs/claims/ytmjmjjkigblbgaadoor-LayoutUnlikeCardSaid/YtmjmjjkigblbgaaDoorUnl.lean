/- Unlike shares have unlike bytes: the statement. -/
import Derived.Test.YtmjmjjkigblbgaaDoorTur
import Derived.Test.YtmjmjjkigblbgaaDoorAuBack
set_option linter.unusedVariables false
set_option linter.unusedSimpArgs false
set_option maxRecDepth 8192
namespace Go.Proofs.YtmjmjjkigblbgaaDoor
open Go Go.F Go.RowKit
open Go.Au

set_option maxHeartbeats 2000000 in
theorem layoutUnlike_ok {H : Hp} {w : World} (hH : H.le (hw w)) (hT : Tabs H) {key : List UInt8} (hky : key.length = 16) {l : List UInt8} {aa1 : Option Addr} {nn1 cc1 : Nat} (hv : Rd H (.slice aa1 nn1 cc1) nn1 1 (l.map bV)) (k0 n0 i0 w0 at0 : Int) (hat : -9223372036854775808 ≤ at0 ∧ at0 ≤ 9223372036854775807) :
  Calls Tryd.prog 4 #[hV key, .slice aa1 nn1 cc1, .int .i64 k0, .int .i64 n0, .int .i64 i0, .int .i64 w0, .int .i64 at0] w fun e w' => e = .returned (.bool true) ∧ Below w.heap.size w w' := by
 obtain rfl : nn1 = l.length := hv.lenB
 have hvcap : l.length ≤ cc1 := hv.capOf
 obtain ⟨n, hn⟩ : ∃ z : Nat, 1 + n0 % 5 = (z : Int) := ⟨(1 + n0 % 5).toNat, by omega⟩
 have hn5 : 1 ≤ n ∧ n ≤ 5 := by omega
 have hk1 := Int.emod_nonneg k0 (show ((n : Nat) : Int) ≠ 0 by omega)
 have hk2 := Int.emod_lt_of_pos k0 (show 0 < ((n : Nat) : Int) by omega)
 obtain ⟨k, hk⟩ : ∃ z : Nat, 1 + k0 % ((n : Nat) : Int) = (z : Int) := ⟨(1 + k0 % ((n : Nat) : Int)).toNat, by omega⟩
 have hkn : 1 ≤ k ∧ k ≤ n := by omega
 obtain ⟨L, hL⟩ : ∃ L, (l.take 150).length + 1 = L := ⟨_, rfl⟩
 have hl150 : (l.take 150).length ≤ 150 := List.length_take_le _ _
 have hL1 : 1 ≤ L ∧ L ≤ 200 := by omega
 have hi1 := Int.emod_nonneg i0 (show ((n : Nat) : Int) ≠ 0 by omega)
 have hi2 := Int.emod_lt_of_pos i0 (show 0 < ((n : Nat) : Int) by omega)
 obtain ⟨i, hi⟩ : ∃ z : Nat, i0 % ((n : Nat) : Int) = (z : Int) := ⟨(i0 % ((n : Nat) : Int)).toNat, by omega⟩
 refine enter7 _ Tryd.func4 rfl Tryd.ntmps4 Tryd.results4 rfl ?_
 have S0 := St.start w hH
 refine Wr (T_boxS S0 (fun _ _ => trivial) rfl rfl rfl rfl rfl rfl fun b81 w82 S83 => (Pv (Nr ?_)))
 refine T_loadFS 0 S83 rfl rfl rfl rfl rfl rfl rfl rfl rfl (hVs hky) ?_
 iterate 3 refine Pv ?_
 refine Cs g_aumbry_aumbrylaw14_made ((made_ok S83.le hky hv k0 n0 k n hn hk hL).mono ?_)
 rintro e w92 ⟨a84, c85, E86, ch87, rfl, hch89, r88, hE90, hB91⟩
 obtain ⟨G94, eG96⟩ : ∃ G, G = F.ext H w82.heap.size w92 := ⟨_, rfl⟩
 obtain ⟨hl95, S93⟩ := S83.ext hB91
 rw [← eG96] at hl95 S93 r88
 refine ⟨_, rfl, trivial, ?_⟩
 iterate 4 refine Pv ?_
 refine Ae S93 fun b97 w98 S99 => ?_
 refine T_storeFS 0 S99 (fun _ _ => trivial) rfl rfl rfl rfl rfl rfl rfl rfl rfl (gV_size (L := [[.int .i64 1], key.map bV, (tagged [117, 101, 98] [(lay k n L E86 ch87)]).map bV, [.int .i64 ((k : Nat) : Int)], [.int .i64 ((n : Nat) : Int)], [.int .i64 ((L : Nat) : Int)], [.slice none 0 0]]) (shCp hky (tagged_len _ _)) rfl) (gV_size (L := [[.int .i64 1], key.map bV, (tagged [117, 101, 98] [(lay k n L E86 ch87)]).map bV, [.int .i64 ((k : Nat) : Int)], [.int .i64 ((n : Nat) : Int)], [.int .i64 ((L : Nat) : Int)], [.slice none 0 0]]) (shCp hky (tagged_len _ _)) rfl) (gV_one (OneL.one rfl (OneL.arr (OneL.arr (OneL.one rfl (OneL.one rfl (OneL.one rfl (OneL.one rfl OneL.nil)))))))) fun w100 S101 => ?_
 iterate 2 refine Pv ?_
 refine Nr ?_
 iterate 3 refine Pv ?_
 refine Cs g_aumbry_aumbrykeep_Within ((withinN_ok S101.le i0 ((n : Nat) : Int) (by omega)).mono ?_)
 rintro e w103 ⟨rfl, hB102⟩
 have S104 := S101.call hB102
 refine ⟨_, rfl, trivial, ?_⟩
 refine T_re (v' := .int .i64 ((i : Nat) : Int)) (congrArg (Value.int .i64) hi) ?_
 obtain ⟨f108, f109, f110, f111, r112, hs113⟩ := (id r88)
 refine Ah i r112 fun b105 o106 hc107 => ?_
 obtain ⟨a114, c115, a116, c117, a118, c119, e120, e121, e122, e123, r124, r125, r126⟩ := hs113 i (by omega)
 have hc127 : ∀ (j : Nat) (u : Value), (#[.int .i64 ((i : Nat) : Int), .slice a114 (lay k n L E86 ch87).length c115, .slice a116 (Go.Au.beside (rowP (lvs n E86)) i (lg (lvs n E86).length)).length c117, .slice a118 (blk E86 i).length c119] : Array Value)[j]? = some u → hcell G94 b105 (o106 + j) = some u := fun j u hu => hc107 j u (shrC_agg (fa := f108) (fb := f109) (fc := f110) (fd := f111) (by omega) j u (by rw [e120, e121, e122, e123]; exact hu))
 have r128 : Rd G94 (.slice a114 (lay k n L E86 ch87).length c115) (lay k n L E86 ch87).length 1 ((lay k n L E86 ch87).map bV) := r124
 have r129 : RdH G94 (.slice a116 (Go.Au.beside (rowP (lvs n E86)) i (lg (lvs n E86).length)).length c117) 32 (Go.Au.beside (rowP (lvs n E86)) i (lg (lvs n E86).length)) := r125
 have r130 : RdL G94 (.slice a118 (blk E86 i).length c119) (blk E86 i) := r126
 refine T_loadGA _ S104 hc127 rfl rfl rfl rfl rfl rfl rfl rfl (by first | rfl | simp [hVs, *]) ?_
 refine Ae S104 fun b131 w132 S133 => ?_
 refine T_storeFS 0 S133 (fun _ _ => trivial) rfl rfl rfl rfl rfl rfl rfl rfl rfl (by first | rfl | simp [hVs, *]) (by first | rfl | simp [hVs, *]) (one_all rfl) fun w134 S135 => ?_
 refine T_nil (W_seq ?_)
 obtain ⟨hbd, hok, hs0, hs1, hs2, hs3⟩ := made_read (k := k) (n := n) (L := L) (E := E86) (ch := ch87) (p := i) (u := (lay k n L E86 ch87)) (P := (Go.Au.beside (rowP (lvs n E86)) i (lg (lvs n E86).length))) (B := (blk E86 i)) (by omega) hL1 hch89 hE90 (by omega) rfl rfl rfl
 obtain ⟨hbu, hbp, hbh, hbb, hbx⟩ := hbd
 have HX : ∀ x ∈ (blk E86 i), x.length ≤ 100 := fun x hx => Nat.le_trans (hbx x hx) (by decide)
 have hue := lay_ok (k := k) (n := n) (L := L) (E := E86) (ch := ch87) (by omega) (by omega) hch89
 have hup := lay_back (k := k) (n := n) (L := L) (E := E86) (ch := ch87) (by omega) (by omega) hch89
 have hup1 : 1 ≤ (lay k n L E86 ch87).length := UebOk_pos hue.1
 have hb1 : 1 ≤ (blk E86 i).length := blk_pos hL1.1 hE90 i
 have HT : ∀ x ∈ (blk E86 i), 1 ≤ x.length ∧ x.length ≤ 64 := fun x hx => ⟨blkE_pos (p := i) (by omega) hL1.1 hE90 (by omega) x hx, hbx x hx⟩
 refine W_region (T_loadFS 0 S135 rfl rfl rfl rfl rfl rfl rfl rfl rfl (by first | rfl | simp [hVs, *]) ?_)
 iterate 2 refine Pv ?_
 refine Cs g_aumbry_aumbrylaw14_turned ((turned_ok S135.le ((i : Nat) : Int) r128 r129 r130 (by omega) (by omega) (by omega) (by omega) HT w0 at0 hat).mono ?_)
 rintro e w158 ⟨z136, U137, P138, B139, b140, b141, b142, d143, d144, d145, m146, m147, m148, rfl, r149, r150, r151, hz152, hu153, hp154, hb155, hx156, hB157⟩
 obtain ⟨G160, eG162⟩ : ∃ G, G = F.ext G94 w134.heap.size w158 := ⟨_, rfl⟩
 obtain ⟨hl161, S159⟩ := S135.ext hB157
 rw [← eG162] at hl161 S159 r149 r150 r151
 refine ⟨_, rfl, trivial, ?_⟩
 obtain rfl : m146 = U137.length := r149.lenB
 obtain rfl : m147 = P138.length := r150.len
 obtain rfl : m148 = B139.length := r151.len
 refine Ae S159 fun b163 w164 S165 => ?_
 refine T_storeFS 0 S165 (fun _ _ => trivial) rfl rfl rfl rfl rfl rfl rfl rfl rfl (by first | rfl | simp [hVs, *]) (by first | rfl | simp [hVs, *]) (one_all rfl) fun w166 S167 => ?_
 refine T_nil (W_seq (Wr (Fl 0 ?_)))
 refine Ak 0 0 S167 ?_
 iterate 2 refine Pv ?_
 refine Tp 44 (fun h168' => ?_) (fun h168' => ?_)
 ·have h168 := of_decide_eq_true h168'
  iterate 3 refine No ?_
  refine Pv (T_nil ?_)
  refine W_cond_true rfl (Wr (Cs g_aumbry_aumbrylaw14_wakes ((wakes_ok S167.le (hT.mono (hl95.trans hl161))).mono ?_)))
  rintro e w170 ⟨rfl, hB169⟩
  have S171 := S167.call hB169
  refine ⟨_, rfl, trivial, ?_⟩
  refine Pv (T_nil (W_ret ?_))
  refine ⟨_, ⟨_, _, rfl, rfl, rfl⟩, ?_⟩
  exact ⟨rfl, S171.below⟩
 have h168 := of_decide_eq_false h168'
 refine Ys ?_
 refine Fl 0 ?_
 refine Ys ?_
 refine Ak 0 0 S167 ?_
 refine Ys ?_
 iterate 2 refine Pv ?_
 refine T_nil (Aa (fun h172 => ?_) (fun h172 => ?_))
 ·refine Wr (Cs g_aumbry_aumbrylaw14_wakes ((wakes_ok S167.le (hT.mono (hl95.trans hl161))).mono ?_))
  rintro e w174 ⟨rfl, hB173⟩
  have S175 := S167.call hB173
  refine ⟨_, rfl, trivial, ?_⟩
  refine Pv (T_nil (W_ret ?_))
  refine ⟨_, ⟨_, _, rfl, rfl, rfl⟩, ?_⟩
  exact ⟨rfl, S175.below⟩
 refine W_skip (W_seq ?_)
 have hpl := packS_len ((i : Nat) : Int) (u := (lay k n L E86 ch87)) (p := (Go.Au.beside (rowP (lvs n E86)) i (lg (lvs n E86).length))) (B := (blk E86 i)) (by omega) (by omega) hbh (by omega) HX
 have hz16 : 0 ≤ z136 ∧ z136 < 16 := by omega
 have HX2 : ∀ x ∈ B139, x.length ≤ 100 := fun x hx => Nat.le_trans (hx156 x hx) (by decide)
 have hse := packS_eq (z := ((i : Nat) : Int)) (z' := z136) (u := (lay k n L E86 ch87)) (p := (Go.Au.beside (rowP (lvs n E86)) i (lg (lvs n E86).length))) (B := (blk E86 i)) (by omega) hz16 (by omega) (Nat.le_trans hu153 (by decide)) (by omega) (Nat.le_trans hp154 (by decide)) hbh r150.1 (by omega) (Nat.le_trans hb155 (by decide)) HX HX2
 refine W_region (Fl 1 ?_)
 refine Ak 1 1 S167 ?_
 refine T_callS rfl rfl g_aumbry_layout_Unpack rfl rfl rfl rfl ((unpackU_ok S167.le (hT.mono (hl95.trans hl161)) (r128.mono hl161) (by first | omega | decide)).mono ?_)
 rintro e w177 ⟨rfl, hB176⟩
 have S178 := S167.call hB176
 refine ⟨_, rfl, trivial, ?_⟩
 iterate 3 refine Pv ?_
 refine Ae S178 fun b179 w180 S181 => ?_
 refine T_storeFS 0 S181 (fun _ _ => trivial) rfl rfl rfl rfl rfl rfl rfl rfl rfl (qV_sz (q_len (uH4 _) (uH5 _) rfl)) (qV_sz (q_len (uH4 _) (uH5 _) rfl)) (qV_one) fun w182 S183 => (Pv (T_nil (W_seq ?_)))
 obtain ⟨G185, hl186, S184, r187⟩ := S183.stillBlk 1 rfl
 obtain ⟨G189, hl190, S188, r191⟩ := S184.stillBlk 1 rfl
 refine W_plan (planF Tryd.prog G189 [60, 63, 64, 72]) rfl (by kernel_rfl) S188.le ?_
 have S192 := S188.drew
 iterate 2 refine Pv ?_
 refine T_bool 57 true rfl (decide_eq_true hue.1) (Ys ?_)
 refine T_loadGA _ S192 (still_cells r191) rfl rfl rfl rfl rfl rfl rfl rfl (by first | rfl | simp [hVs, *]) ?_
 refine Ys ?_
 refine Cs g_aumbry_layout_PackShare ((packS_ok S192.le (hT.mono (hl95.trans (hl161.trans (hl186.trans hl190)))) ((i : Nat) : Int) (r128.mono (hl161.trans (hl186.trans hl190))) (r129.mono (hl161.trans (hl186.trans hl190))) (r130.mono (hl161.trans (hl186.trans hl190))) (by omega) (by omega) (by omega) (by omega) HX).mono ?_)
 rintro e w198 ⟨a193, c194, hc195, rfl, ho196, hB197⟩
 have S199 := S192.own hB197 ho196
 refine ⟨_, rfl, (((Hp.le.refl _)).trans S199.le), ?_⟩
 refine Ys ?_
 refine T_loadGAP _ (fun _ h => h) (still_cells (hl190 _ _ r187)) rfl rfl rfl rfl rfl rfl rfl rfl (by first | rfl | simp [hVs, *]) ?_
 refine Ys ?_
 refine Cs g_aumbry_layout_PackShare ((packS_ok S199.le (hT.mono (hl95.trans (hl161.trans (hl186.trans hl190)))) z136 (r149.mono (hl186.trans hl190)) (r150.mono (hl186.trans hl190)) (r151.mono (hl186.trans hl190)) (by omega) (by omega) (by omega) (by omega) HX2).mono ?_)
 rintro e w205 ⟨a200, c201, hc202, rfl, ho203, hB204⟩
 have S206 := S199.own hB204 ho203
 refine ⟨_, rfl, (((Hp.le.refl _)).trans S206.le), ?_⟩
 refine Ys ?_
 obtain ⟨G208, hl209, S207, r210⟩ := S206.stillRow 1 rfl
 obtain ⟨G212, hl213, S211, r214⟩ := S207.stillRow 0 rfl
 refine T_callS rfl rfl g_aumbry_aumbrykeep_Same_byte rfl rfl rfl rfl ((sameB_ok S211.le (r210.mono hl213) r214 (by first | omega | (simp; done) | (simp only [List.length_take, List.length_drop]; omega))).mono ?_)
 rintro e w216 ⟨rfl, hB215⟩
 have S217 := S211.call hB215
 refine ⟨_, rfl, (((hl209.trans hl213)).trans S217.le), ?_⟩
 refine Ys ?_
 refine T_loadGAP _ (fun _ h => h) (still_cells r191) rfl rfl rfl rfl rfl rfl rfl rfl (by first | rfl | simp [hVs, *]) ?_
 refine Ys ?_
 refine T_loadGAP _ (fun _ h => h) (still_cells (hl190 _ _ r187)) rfl rfl rfl rfl rfl rfl rfl rfl (by first | rfl | simp [hVs, *]) ?_
 refine Ys ?_
 refine T_callS rfl rfl g_aumbry_aumbrykeep_Share rfl rfl rfl rfl ((shareEq_ok S217.le ((i : Nat) : Int) (r128.mono (hl161.trans (hl186.trans (hl190.trans (hl209.trans hl213))))) (r129.mono (hl161.trans (hl186.trans (hl190.trans (hl209.trans hl213))))) (r130.mono (hl161.trans (hl186.trans (hl190.trans (hl209.trans hl213))))) z136 (r149.mono (hl186.trans (hl190.trans (hl209.trans hl213)))) (r150.mono (hl186.trans (hl190.trans (hl209.trans hl213)))) (r151.mono (hl186.trans (hl190.trans (hl209.trans hl213)))) (by omega) (by omega) (by omega) (fun x hx => Nat.le_trans (HX x hx) (by decide))).mono ?_)
 rintro e w219 ⟨rfl, hB218⟩
 have S220 := S217.call hB218
 refine ⟨_, rfl, (((hl209.trans hl213)).trans S220.le), ?_⟩
 refine Ys ?_
 refine T_beq rfl rfl rfl rfl rfl rfl rfl ?_
 iterate 2 refine Pv ?_
 refine T_bool 68 true rfl (decide_eq_true (decide_eq_decide.2 hse)) (Ys ?_)
 refine T_loadFS 0 S220 rfl rfl rfl rfl rfl rfl rfl rfl rfl (qV_sz (q_len (uH4 _) (uH5 _) rfl)) (Ys ?_)
 refine Cs g_aumbry_layout_Pack ((packU_ok S220.le (hT.mono (hl95.trans (hl161.trans (hl186.trans (hl190.trans (hl209.trans hl213)))))) (uN (lay k n L E86 ch87) 0) (uN (lay k n L E86 ch87) 1) (uN (lay k n L E86 ch87) 2) (uN (lay k n L E86 ch87) 3) (s := (uH (lay k n L E86 ch87) 4)) (t := (uH (lay k n L E86 ch87) 5)) (uH4 _) (uH5 _) (by rw [hue.2.1]; omega) (by rw [hue.2.2.1]; omega) (by rw [hue.2.2.2.1]; omega) (by rw [hue.2.2.2.2.1]; omega)).mono ?_)
 rintro e w226 ⟨a221, c222, hc223, rfl, ho224, hB225⟩
 have hl227 := packU_len (uN (lay k n L E86 ch87) 0) (uN (lay k n L E86 ch87) 1) (uN (lay k n L E86 ch87) 2) (uN (lay k n L E86 ch87) 3) (s := (uH (lay k n L E86 ch87) 4)) (t := (uH (lay k n L E86 ch87) 5)) (by have : (uH (lay k n L E86 ch87) 4).length = _ := (uH4 _); omega) (by have : (uH (lay k n L E86 ch87) 5).length = _ := (uH5 _); omega)
 have S228 := S220.own hB225 ho224
 refine ⟨_, rfl, (((hl209.trans hl213)).trans S228.le), ?_⟩
 refine Ys ?_
 refine Fl 1 ?_
 refine Ys ?_
 refine Aj (still_cell r191 rfl) ?_
 refine Ys ?_
 obtain ⟨G230, hl231, S229, r232⟩ := S228.stillRow 0 rfl
 refine T_callS rfl rfl g_aumbry_aumbrykeep_Same_byte rfl rfl rfl rfl ((sameB_ok S229.le r232 (r128.mono (hl161.trans (hl186.trans (hl190.trans (hl209.trans (hl213.trans hl231)))))) (by first | omega | (simp; done) | (simp only [List.length_take, List.length_drop]; omega))).mono ?_)
 rintro e w234 ⟨rfl, hB233⟩
 have S235 := S229.call hB233
 refine ⟨_, rfl, (((hl209.trans (hl213.trans hl231))).trans S235.le), ?_⟩
 iterate 2 refine Pv ?_
 refine T_bool 75 true rfl (decide_eq_true hup) (Ys ?_)
 refine Cs g_aumbry_aumbrylaw14_wakes ((wakes_ok S235.le (hT.mono (hl95.trans (hl161.trans (hl186.trans (hl190.trans (hl209.trans (hl213.trans hl231)))))))).mono ?_)
 rintro e w237 ⟨rfl, hB236⟩
 have S238 := S235.call hB236
 refine ⟨_, rfl, (((hl209.trans (hl213.trans hl231))).trans S238.le), ?_⟩
 iterate 2 refine Pv ?_
 refine T_nil (W_ret ?_)
 refine ⟨_, ⟨_, _, rfl, rfl, rfl⟩, ?_⟩
 exact ⟨rfl, S238.below⟩

end Go.Proofs.YtmjmjjkigblbgaaDoor
