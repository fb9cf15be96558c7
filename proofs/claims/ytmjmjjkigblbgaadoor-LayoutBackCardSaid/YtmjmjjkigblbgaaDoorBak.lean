/- What is packed is read as it was: the statement. -/
import Derived.Test.YtmjmjjkigblbgaaDoorMad
import Derived.Test.YtmjmjjkigblbgaaDoorAuBack
set_option linter.unusedVariables false
set_option linter.unusedSimpArgs false
set_option maxRecDepth 8192
namespace Go.Proofs.YtmjmjjkigblbgaaDoor
open Go Go.F Go.RowKit
open Go.Au hiding packV_ok

set_option maxHeartbeats 2000000 in
theorem layoutBack_ok {H : Hp} {w : World} (hH : H.le (hw w)) (hT : Tabs H) {key : List UInt8} (hky : key.length = 16) {l : List UInt8} {aa1 : Option Addr} {nn1 cc1 : Nat} (hv : Rd H (.slice aa1 nn1 cc1) nn1 1 (l.map bV)) (k0 n0 i0 : Int) (p q r u : Int) {s t : List UInt8} (hs : s.length = 16) (ht : t.length = 32) (ha : p ≤ 9223372036854775807) (hb : q ≤ 9223372036854775807) (hc : r ≤ 9223372036854775807) (hd : u ≤ 9223372036854775807) :
  Calls Tryd.prog 6 #[hV key, .slice aa1 nn1 cc1, .int .i64 k0, .int .i64 n0, .int .i64 i0, qV p q r u s t] w fun e w' => e = .returned (.bool true) ∧ Below w.heap.size w w' := by
 obtain rfl : nn1 = l.length := hv.lenB
 have hvcap : l.length ≤ cc1 := hv.capOf
 obtain ⟨n, hn⟩ : ∃ z : Nat, 1 + n0 % 5 = (z : Int) := ⟨(1 + n0 % 5).toNat, by omega⟩
 have hn5 : 1 ≤ n ∧ n ≤ 5 := by omega
 have hk1 := Int.emod_nonneg k0 (show ((n : Nat) : Int) ≠ 0 by omega)
 have hk2 := Int.emod_lt_of_pos k0 (show 0 < ((n : Nat) : Int) by omega)
 obtain ⟨k, hk⟩ : ∃ z : Nat, 1 + k0 % ((n : Nat) : Int) = (z : Int) := ⟨(1 + k0 % ((n : Nat) : Int)).toNat, by omega⟩
 have hkn : 1 ≤ k ∧ k ≤ n := by omega
 obtain ⟨L, hL⟩ : ∃ L, (l.take 150).length + 1 = L := ⟨_, rfl⟩
 have hl150 : (l.take 150).length ≤ 150 := List.length_take_le _ _
 have hL1 : 1 ≤ L ∧ L ≤ 200 := by omega
 have hi1 := Int.emod_nonneg i0 (show ((n : Nat) : Int) ≠ 0 by omega)
 have hi2 := Int.emod_lt_of_pos i0 (show 0 < ((n : Nat) : Int) by omega)
 obtain ⟨i, hi⟩ : ∃ z : Nat, i0 % ((n : Nat) : Int) = (z : Int) := ⟨(i0 % ((n : Nat) : Int)).toNat, by omega⟩
 obtain ⟨vn, hvn⟩ : ∃ z : Nat, 1 + r % 16 = (z : Int) := ⟨(1 + r % 16).toNat, by omega⟩
 have hvn2 : 1 ≤ vn ∧ vn ≤ 16 := by omega
 have hvk1 := Int.emod_nonneg q (show ((vn : Nat) : Int) ≠ 0 by omega)
 have hvk2 := Int.emod_lt_of_pos q (show 0 < ((vn : Nat) : Int) by omega)
 obtain ⟨vk, hvk⟩ : ∃ z : Nat, 1 + q % ((vn : Nat) : Int) = (z : Int) := ⟨(1 + q % ((vn : Nat) : Int)).toNat, by omega⟩
 have hvk2 : 1 ≤ vk ∧ vk ≤ vn := by omega
 obtain ⟨va, hva⟩ : ∃ z : Nat, 1 + p % 1048576 = (z : Int) := ⟨(1 + p % 1048576).toNat, by omega⟩
 have hva2 : 1 ≤ va ∧ va ≤ 1048576 := by omega
 obtain ⟨vd, hvd⟩ : ∃ z : Nat, u % 1025 = (z : Int) := ⟨(u % 1025).toNat, by omega⟩
 have hvd2 : vd ≤ 1024 := by omega
 obtain ⟨hpv, hp0, hp1, hp2, hp3, hp4, hp5⟩ := Go.Au.packV_ok hs ht hva2 ⟨hvk2.1, hvk2.2, hvn2.2⟩ hvd2
 refine enter6 _ Tryd.func6 rfl Tryd.ntmps6 Tryd.results6 rfl ?_
 have S0 := St.start w hH
 refine Wr (T_boxS S0 (fun _ _ => trivial) rfl rfl rfl rfl rfl rfl fun b81 w82 S83 => (T_boxS S83 (fun _ _ => trivial) rfl rfl rfl rfl rfl rfl fun b84 w85 S86 => (Pv (Nr ?_))))
 refine T_loadFS 1 S86 rfl rfl rfl rfl rfl rfl rfl rfl rfl (hVs hky) ?_
 iterate 3 refine Pv ?_
 refine Cs g_aumbry_aumbrylaw14_made ((made_ok S86.le hky hv k0 n0 k n hn hk hL).mono ?_)
 rintro e w95 ⟨a87, c88, E89, ch90, rfl, hch92, r91, hE93, hB94⟩
 obtain ⟨G97, eG99⟩ : ∃ G, G = F.ext H w85.heap.size w95 := ⟨_, rfl⟩
 obtain ⟨hl98, S96⟩ := S86.ext hB94
 rw [← eG99] at hl98 S96 r91
 refine ⟨_, rfl, trivial, ?_⟩
 iterate 4 refine Pv ?_
 refine Ad S96 fun b100 w101 S102 => ?_
 refine Ah (hl := gV_size (L := [[.int .i64 1], key.map bV, (tagged [117, 101, 98] [(packU ((k : Nat) : Int) ((n : Nat) : Int) ((L : Nat) : Int) 64 ch90 (Go.Au.root (tab n fun p => Go.Au.root (leavesH (blk E89 p) (blk E89 p).length))))]).map bV, [.int .i64 ((k : Nat) : Int)], [.int .i64 ((n : Nat) : Int)], [.int .i64 ((L : Nat) : Int)], [.slice none 0 0]]) (shCp hky (tagged_len _ _)) rfl) (hl2 := gV_size (L := [[.int .i64 1], key.map bV, (tagged [117, 101, 98] [(packU ((k : Nat) : Int) ((n : Nat) : Int) ((L : Nat) : Int) 64 ch90 (Go.Au.root (tab n fun p => Go.Au.root (leavesH (blk E89 p) (blk E89 p).length))))]).map bV, [.int .i64 ((k : Nat) : Int)], [.int .i64 ((n : Nat) : Int)], [.int .i64 ((L : Nat) : Int)], [.slice none 0 0]]) (shCp hky (tagged_len _ _)) rfl) 0 S102 (gV_one (OneL.one rfl (OneL.arr (OneL.arr (OneL.one rfl (OneL.one rfl (OneL.one rfl (OneL.one rfl OneL.nil)))))))) fun w103 S104 => ?_
 iterate 2 refine Pv ?_
 refine Nr ?_
 iterate 3 refine Pv ?_
 refine Cs g_aumbry_aumbrykeep_Within ((withinN_ok S104.le i0 ((n : Nat) : Int) (by omega)).mono ?_)
 rintro e w106 ⟨rfl, hB105⟩
 have S107 := S104.call hB105
 refine ⟨_, rfl, trivial, ?_⟩
 refine T_re (v' := .int .i64 ((i : Nat) : Int)) (congrArg (Value.int .i64) hi) ?_
 obtain ⟨f111, f112, f113, f114, r115, hs116⟩ := (id r91)
 refine Ag i r115 fun b108 o109 hc110 => ?_
 obtain ⟨a117, c118, a119, c120, a121, c122, e123, e124, e125, e126, r127, r128, r129⟩ := hs116 i (by omega)
 have hc130 : ∀ (j : Nat) (u : Value), (#[.int .i64 ((i : Nat) : Int), .slice a117 (packU ((k : Nat) : Int) ((n : Nat) : Int) ((L : Nat) : Int) 64 ch90 (Go.Au.root (tab n fun p => Go.Au.root (leavesH (blk E89 p) (blk E89 p).length)))).length c118, .slice a119 (Go.Au.beside (rowP (tab n fun p => Go.Au.root (leavesH (blk E89 p) (blk E89 p).length))) i (lg (tab n fun p => Go.Au.root (leavesH (blk E89 p) (blk E89 p).length)).length)).length c120, .slice a121 (blk E89 i).length c122] : Array Value)[j]? = some u → hcell G97 b108 (o109 + j) = some u := fun j u hu => hc110 j u (shrC_agg (fa := f111) (fb := f112) (fc := f113) (fd := f114) (by omega) j u (by rw [e123, e124, e125, e126]; exact hu))
 have r131 : Rd G97 (.slice a117 (packU ((k : Nat) : Int) ((n : Nat) : Int) ((L : Nat) : Int) 64 ch90 (Go.Au.root (tab n fun p => Go.Au.root (leavesH (blk E89 p) (blk E89 p).length)))).length c118) (packU ((k : Nat) : Int) ((n : Nat) : Int) ((L : Nat) : Int) 64 ch90 (Go.Au.root (tab n fun p => Go.Au.root (leavesH (blk E89 p) (blk E89 p).length)))).length 1 ((packU ((k : Nat) : Int) ((n : Nat) : Int) ((L : Nat) : Int) 64 ch90 (Go.Au.root (tab n fun p => Go.Au.root (leavesH (blk E89 p) (blk E89 p).length)))).map bV) := r127
 have r132 : RdH G97 (.slice a119 (Go.Au.beside (rowP (tab n fun p => Go.Au.root (leavesH (blk E89 p) (blk E89 p).length))) i (lg (tab n fun p => Go.Au.root (leavesH (blk E89 p) (blk E89 p).length)).length)).length c120) 32 (Go.Au.beside (rowP (tab n fun p => Go.Au.root (leavesH (blk E89 p) (blk E89 p).length))) i (lg (tab n fun p => Go.Au.root (leavesH (blk E89 p) (blk E89 p).length)).length)) := r128
 have r133 : RdL G97 (.slice a121 (blk E89 i).length c122) (blk E89 i) := r129
 refine T_loadGA _ S107 hc130 rfl rfl rfl rfl rfl rfl rfl rfl (by first | rfl | simp [hVs, *]) ?_
 refine Ad S107 fun b134 w135 S136 => ?_
 refine Ah (hl := by first | rfl | simp [hVs, *]) (hl2 := by first | rfl | simp [hVs, *]) 0 S136 (one_all rfl) fun w137 S138 => (T_nil (W_seq ?_))
 obtain ⟨hbd, hok, hs0, hs1, hs2, hs3⟩ := made_read (k := k) (n := n) (L := L) (E := E89) (ch := ch90) (p := i) (u := (packU ((k : Nat) : Int) ((n : Nat) : Int) ((L : Nat) : Int) 64 ch90 (Go.Au.root (tab n fun p => Go.Au.root (leavesH (blk E89 p) (blk E89 p).length))))) (P := (Go.Au.beside (rowP (tab n fun p => Go.Au.root (leavesH (blk E89 p) (blk E89 p).length))) i (lg (tab n fun p => Go.Au.root (leavesH (blk E89 p) (blk E89 p).length)).length))) (B := (blk E89 i)) (by omega) hL1 hch92 hE93 (by omega) rfl rfl rfl
 obtain ⟨hbu, hbp, hbh, hbb, hbx⟩ := hbd
 have HX : ∀ x ∈ (blk E89 i), x.length ≤ 100 := fun x hx => Nat.le_trans (hbx x hx) (by decide)
 have hue := lay_ok (k := k) (n := n) (L := L) (E := E89) (ch := ch90) (by omega) (by omega) hch92
 have hup := lay_back (k := k) (n := n) (L := L) (E := E89) (ch := ch90) (by omega) (by omega) hch92
 have hpl := packS_len ((i : Nat) : Int) (u := (packU ((k : Nat) : Int) ((n : Nat) : Int) ((L : Nat) : Int) 64 ch90 (Go.Au.root (tab n fun p => Go.Au.root (leavesH (blk E89 p) (blk E89 p).length))))) (p := (Go.Au.beside (rowP (tab n fun p => Go.Au.root (leavesH (blk E89 p) (blk E89 p).length))) i (lg (tab n fun p => Go.Au.root (leavesH (blk E89 p) (blk E89 p).length)).length))) (B := (blk E89 i)) (by omega) (by omega) hbh (by omega) HX
 have hpp := ShOk_pos hok
 have hvl := packV_len ((va : Nat) : Int) ((vk : Nat) : Int) ((vn : Nat) : Int) ((vd : Nat) : Int) (s := s) (t := t) (by omega) (by omega)
 refine W_region (T_loadFS 0 S138 rfl rfl rfl rfl rfl rfl rfl rfl rfl (by first | rfl | simp [hVs, *]) ?_)
 refine Cs g_aumbry_layout_PackShare ((packS_ok S138.le (hT.mono hl98) ((i : Nat) : Int) r131 r132 r133 (by omega) (by omega) (by omega) (by omega) HX).mono ?_)
 rintro e w144 ⟨a139, c140, hc141, rfl, ho142, hB143⟩
 have S145 := S138.own hB143 ho142
 refine ⟨_, rfl, trivial, ?_⟩
 refine Pv (T_nil (W_seq ?_))
 obtain ⟨Z, hZ⟩ : ∃ Z, (packS ((i : Nat) : Int) (packU ((k : Nat) : Int) ((n : Nat) : Int) ((L : Nat) : Int) 64 ch90 (Go.Au.root (tab n fun p => Go.Au.root (leavesH (blk E89 p) (blk E89 p).length)))) (Go.Au.beside (rowP (tab n fun p => Go.Au.root (leavesH (blk E89 p) (blk E89 p).length))) i (lg (tab n fun p => Go.Au.root (leavesH (blk E89 p) (blk E89 p).length)).length)) (blk E89 i)) = Z := ⟨_, rfl⟩
 rw [hZ] at S145 hc141 hok hs0 hs1 hs2 hs3 hpl hpp ⊢
 refine W_region (Pv ?_)
 obtain ⟨G147, hl148, S146, r149⟩ := S145.stillRow 0 rfl
 refine Cs g_aumbry_layout_UnpackShare ((unpackS_ok S146.le r149 (by omega)).mono ?_)
 rintro e w160 ⟨a150, c151, a152, c153, a154, c155, rfl, r156, r157, r158, hB159⟩
 obtain ⟨G162, eG164⟩ : ∃ G, G = F.ext G147 w144.heap.size w160 := ⟨_, rfl⟩
 obtain ⟨hl163, S161⟩ := S146.ext hB159
 rw [← eG164] at hl163 S161 r156 r157 r158
 refine ⟨_, rfl, trivial, ?_⟩
 iterate 3 refine Pv ?_
 refine Ad S161 fun b165 w166 S167 => ?_
 refine Ah (hl := by first | rfl | simp [hVs, *]) (hl2 := by first | rfl | simp [hVs, *]) 0 S167 (one_all rfl) fun w168 S169 => ?_
 refine Pv (Nr ?_)
 refine Fl 1 ?_
 refine T_loadS 1 1 S169 rfl rfl rfl rfl rfl rfl rfl rfl rfl rfl (T_callS rfl rfl g_aumbry_layout_Unpack rfl rfl rfl rfl ((unpackU_ok S169.le (hT.mono (hl98.trans (hl148.trans hl163))) (r131.mono (hl148.trans hl163)) (by first | omega | decide)).mono ?_))
 rintro e w171 ⟨rfl, hB170⟩
 have S172 := S169.call hB170
 refine ⟨_, rfl, trivial, ?_⟩
 iterate 3 refine Pv ?_
 refine Ad S172 fun b173 w174 S175 => ?_
 refine Ah (hl := qV_sz (q_len (uH4 _) (uH5 _) rfl)) (hl2 := qV_sz (q_len (uH4 _) (uH5 _) rfl)) 0 S175 (qV_one) fun w176 S177 => ?_
 refine Pv (T_nil ?_)
 iterate 2 refine W_seq ?_
 obtain ⟨G179, hl180, S178, r181⟩ := S177.stillBlk 2 rfl
 obtain ⟨G183, hl184, S182, r185⟩ := S178.stillBlk 2 rfl
 refine W_plan (planF Tryd.prog G183 [75, 84]) rfl (by kernel_rfl) S182.le ?_
 have S186 := S182.drew
 iterate 3 refine Pv ?_
 refine T_bool 61 false rfl (ndec_f hok) (Ys ?_)
 refine T_loadFS 1 S186 rfl rfl rfl rfl rfl rfl rfl rfl rfl (by first | rfl | simp [hVs, *]) ?_
 refine Ys ?_
 refine T_loadGA _ S186 (still_cells (hl184 _ _ r181)) rfl rfl rfl rfl rfl rfl rfl rfl (by first | rfl | simp [hVs, *]) ?_
 refine Ys ?_
 refine T_callS rfl rfl g_aumbry_aumbrykeep_Share rfl rfl rfl rfl ((shareEq_ok S186.le (shN Z) (r156.mono (hl180.trans hl184)) (r157.mono (hl180.trans hl184)) (r158.mono (hl180.trans hl184)) ((i : Nat) : Int) (r131.mono (hl148.trans (hl163.trans (hl180.trans hl184)))) (r132.mono (hl148.trans (hl163.trans (hl180.trans hl184)))) (r133.mono (hl148.trans (hl163.trans (hl180.trans hl184)))) (by rw [hs1]; omega) (by rw [hs2]; omega) (by rw [hs3]; omega) (by rw [hs3]; exact fun x hx => Nat.le_trans (HX x hx) (by decide))).mono ?_)
 rintro e w188 ⟨rfl, hB187⟩
 have S189 := S186.call hB187
 refine ⟨_, rfl, (((Hp.le.refl _)).trans S189.le), ?_⟩
 refine Ys ?_
 iterate 3 refine Pv ?_
 refine T_bool 67 false rfl (ndec_f ⟨hs0, hs1, hs2, hs3⟩) ?_
 iterate 2 (refine Ys ?_; refine Pv ?_)
 iterate 2 refine Pv ?_
 refine T_bool 71 false rfl (ndec_f hue.1) (Ys ?_)
 refine T_loadFS 0 S189 rfl rfl rfl rfl rfl rfl rfl rfl rfl (qV_sz (q_len (uH4 _) (uH5 _) rfl)) (Ys ?_)
 refine Cs g_aumbry_layout_Pack ((packU_ok S189.le (hT.mono (hl98.trans (hl148.trans (hl163.trans (hl180.trans hl184))))) (uN (packU ((k : Nat) : Int) ((n : Nat) : Int) ((L : Nat) : Int) 64 ch90 (Go.Au.root (tab n fun p => Go.Au.root (leavesH (blk E89 p) (blk E89 p).length)))) 0) (uN (packU ((k : Nat) : Int) ((n : Nat) : Int) ((L : Nat) : Int) 64 ch90 (Go.Au.root (tab n fun p => Go.Au.root (leavesH (blk E89 p) (blk E89 p).length)))) 1) (uN (packU ((k : Nat) : Int) ((n : Nat) : Int) ((L : Nat) : Int) 64 ch90 (Go.Au.root (tab n fun p => Go.Au.root (leavesH (blk E89 p) (blk E89 p).length)))) 2) (uN (packU ((k : Nat) : Int) ((n : Nat) : Int) ((L : Nat) : Int) 64 ch90 (Go.Au.root (tab n fun p => Go.Au.root (leavesH (blk E89 p) (blk E89 p).length)))) 3) (s := (uH (packU ((k : Nat) : Int) ((n : Nat) : Int) ((L : Nat) : Int) 64 ch90 (Go.Au.root (tab n fun p => Go.Au.root (leavesH (blk E89 p) (blk E89 p).length)))) 4)) (t := (uH (packU ((k : Nat) : Int) ((n : Nat) : Int) ((L : Nat) : Int) 64 ch90 (Go.Au.root (tab n fun p => Go.Au.root (leavesH (blk E89 p) (blk E89 p).length)))) 5)) (uH4 _) (uH5 _) (by rw [hue.2.1]; omega) (by rw [hue.2.2.1]; omega) (by rw [hue.2.2.2.1]; omega) (by rw [hue.2.2.2.2.1]; omega)).mono ?_)
 rintro e w195 ⟨a190, c191, hc192, rfl, ho193, hB194⟩
 have hl196 := packU_len (uN (packU ((k : Nat) : Int) ((n : Nat) : Int) ((L : Nat) : Int) 64 ch90 (Go.Au.root (tab n fun p => Go.Au.root (leavesH (blk E89 p) (blk E89 p).length)))) 0) (uN (packU ((k : Nat) : Int) ((n : Nat) : Int) ((L : Nat) : Int) 64 ch90 (Go.Au.root (tab n fun p => Go.Au.root (leavesH (blk E89 p) (blk E89 p).length)))) 1) (uN (packU ((k : Nat) : Int) ((n : Nat) : Int) ((L : Nat) : Int) 64 ch90 (Go.Au.root (tab n fun p => Go.Au.root (leavesH (blk E89 p) (blk E89 p).length)))) 2) (uN (packU ((k : Nat) : Int) ((n : Nat) : Int) ((L : Nat) : Int) 64 ch90 (Go.Au.root (tab n fun p => Go.Au.root (leavesH (blk E89 p) (blk E89 p).length)))) 3) (s := (uH (packU ((k : Nat) : Int) ((n : Nat) : Int) ((L : Nat) : Int) 64 ch90 (Go.Au.root (tab n fun p => Go.Au.root (leavesH (blk E89 p) (blk E89 p).length)))) 4)) (t := (uH (packU ((k : Nat) : Int) ((n : Nat) : Int) ((L : Nat) : Int) 64 ch90 (Go.Au.root (tab n fun p => Go.Au.root (leavesH (blk E89 p) (blk E89 p).length)))) 5)) (by have : (uH (packU ((k : Nat) : Int) ((n : Nat) : Int) ((L : Nat) : Int) 64 ch90 (Go.Au.root (tab n fun p => Go.Au.root (leavesH (blk E89 p) (blk E89 p).length)))) 4).length = _ := (uH4 _); omega) (by have : (uH (packU ((k : Nat) : Int) ((n : Nat) : Int) ((L : Nat) : Int) 64 ch90 (Go.Au.root (tab n fun p => Go.Au.root (leavesH (blk E89 p) (blk E89 p).length)))) 5).length = _ := (uH5 _); omega)
 have S197 := S189.own hB194 ho193
 refine ⟨_, rfl, (((Hp.le.refl _)).trans S197.le), ?_⟩
 refine Ys ?_
 refine Fl 1 ?_
 refine Ys ?_
 refine Aj (still_cell (hl184 _ _ r181) rfl) ?_
 refine Ys ?_
 obtain ⟨G199, hl200, S198, r201⟩ := S197.stillRow 0 rfl
 refine T_callS rfl rfl g_aumbry_aumbrykeep_Same_byte rfl rfl rfl rfl ((sameB_ok S198.le r201 (r131.mono (hl148.trans (hl163.trans (hl180.trans (hl184.trans hl200))))) (by first | omega | (simp; done) | (simp only [List.length_take, List.length_drop]; omega))).mono ?_)
 rintro e w203 ⟨rfl, hB202⟩
 have S204 := S198.call hB202
 refine ⟨_, rfl, ((hl200).trans S204.le), ?_⟩
 refine Ys ?_
 iterate 3 refine Pv ?_
 refine T_bool 79 false rfl (ndec_f hup) (Ys ?_)
 refine Fl 1 ?_
 refine Ys ?_
 refine Ac S204 (still_cell (hl200 _ _ (hl184 _ _ r181)) rfl) ?_
 refine Ys ?_
 refine T_callS rfl rfl g_aumbry_layout_Print rfl rfl rfl rfl ((print_ok S204.le (hT.mono (hl98.trans (hl148.trans (hl163.trans (hl180.trans (hl184.trans hl200)))))) (r131.mono (hl148.trans (hl163.trans (hl180.trans (hl184.trans hl200))))) (by first | omega | decide)).mono ?_)
 rintro e w206 ⟨rfl, hB205⟩
 have S207 := S204.call hB205
 refine ⟨_, rfl, ((hl200).trans S207.le), ?_⟩
 refine Ys ?_
 refine Fl 17 ?_
 refine Ys ?_
 refine T_loadGAP (hV (tagged [117, 101, 98] [(packU ((k : Nat) : Int) ((n : Nat) : Int) ((L : Nat) : Int) 64 ch90 (Go.Au.root (tab n fun p => Go.Au.root (leavesH (blk E89 p) (blk E89 p).length))))]) : Value).cells (fun _ h => h) (still_part r185 (gV_sub (shCp hky (tagged_len _ _)) 2 1 (c := (tagged [117, 101, 98] [(packU ((k : Nat) : Int) ((n : Nat) : Int) ((L : Nat) : Int) 64 ch90 (Go.Au.root (tab n fun p => Go.Au.root (leavesH (blk E89 p) (blk E89 p).length))))]).map bV) (flat1) rfl)) rfl rfl rfl rfl rfl rfl rfl rfl (hVs (tagged_len _ _)) (Ys ?_)
 refine T_neB (xs := tagged [117, 101, 98] [(packU ((k : Nat) : Int) ((n : Nat) : Int) ((L : Nat) : Int) 64 ch90 (Go.Au.root (tab n fun p => Go.Au.root (leavesH (blk E89 p) (blk E89 p).length))))]) (ys := (tagged [117, 101, 98] [(packU ((k : Nat) : Int) ((n : Nat) : Int) ((L : Nat) : Int) 64 ch90 (Go.Au.root (tab n fun p => Go.Au.root (leavesH (blk E89 p) (blk E89 p).length))))])) rfl rfl rfl rfl rfl rfl rfl rfl rfl rfl rfl (tagged_len _ _) (tagged_len _ _) ?_
 iterate 2 refine Pv ?_
 refine T_bool 87 false rfl (ndec_f rfl) ?_
 iterate 3 (refine Ys ?_; refine Pv ?_)
 refine Pv (T_nil ?_)
 refine W_bool 91 false rfl (decide_eq_false (by omega)) ?_
 refine W_cond_false rfl (W_skip (Wr (Fl 2 ?_)))
 refine T_loadS 2 2 S207 rfl rfl rfl rfl rfl rfl rfl rfl rfl qV_2 (Cs g_aumbry_aumbrykeep_Within ((withinN_ok S207.le r (16 : Int) (by omega)).mono ?_))
 rintro e w209 ⟨rfl, hB208⟩
 have S210 := S207.call hB208
 refine ⟨_, rfl, trivial, ?_⟩
 refine Ar ?_
 refine T_re (v' := .int .i64 ((vn : Nat) : Int)) (congrArg (Value.int .i64) hvn) (Fl 2 ?_)
 refine T_store1S 2 2 S210 (fun _ _ => trivial) rfl rfl rfl rfl rfl rfl rfl rfl rfl rfl rfl rfl (Nat.lt_of_lt_of_eq (show 2 < 52 by decide) (show (qV p q r u s t : Value).cells.size = 52 from qV_sz (q_len hs ht rfl)).symm) fun w211 S212 => ?_
 have S213 := S212.re 2 rfl (show (qV p q r u s t : Value).cells.setIfInBounds 2 (.int .i64 ((vn : Nat) : Int)) = (qV p q ((vn : Nat) : Int) u s t : Value).cells from qV_set2 _)
 refine Nr (Fl 1 ?_)
 refine T_loadS 2 1 S213 rfl rfl rfl rfl rfl rfl rfl rfl rfl qV_1 (Fl 2 ?_)
 refine T_loadS 2 2 S213 rfl rfl rfl rfl rfl rfl rfl rfl rfl qV_2 (Cs g_aumbry_aumbrykeep_Within ((withinN_ok S213.le q ((vn : Nat) : Int) (by omega)).mono ?_))
 rintro e w215 ⟨rfl, hB214⟩
 have S216 := S213.call hB214
 refine ⟨_, rfl, trivial, ?_⟩
 refine Ar ?_
 refine T_re (v' := .int .i64 ((vk : Nat) : Int)) (congrArg (Value.int .i64) hvk) (Fl 1 ?_)
 refine T_store1S 2 1 S216 (fun _ _ => trivial) rfl rfl rfl rfl rfl rfl rfl rfl rfl rfl rfl rfl (Nat.lt_of_lt_of_eq (show 1 < 52 by decide) (show (qV p q ((vn : Nat) : Int) u s t : Value).cells.size = 52 from qV_sz (q_len hs ht rfl)).symm) fun w217 S218 => ?_
 have S219 := S218.re 2 rfl (show (qV p q ((vn : Nat) : Int) u s t : Value).cells.setIfInBounds 1 (.int .i64 ((vk : Nat) : Int)) = (qV p ((vk : Nat) : Int) ((vn : Nat) : Int) u s t : Value).cells from qV_set1 _)
 refine T_nil (W_seq (W_tree (plan Tryd.prog) (.step 0 (.step 1 (.step 4 (.fork 2 5 (.step 3 (.step 5 (.step 6 (.step 7 (.step 8 (.step 9 (.step 10 .done))))))) (.step 2 (.step 3 (.step 6 (.step 7 (.step 8 (.step 9 (.step 10 .done))))))))))) rfl (by kernel_rfl) trivial ?_))
 have S220 := S219.drew
 refine TT_step rfl (Fl 0 ?_)
 refine Nt rfl (T_loadS 2 0 S220 rfl rfl rfl rfl rfl rfl rfl rfl rfl qV_0 (Nt rfl (Fl 3 (T_nil ?_))))
 refine TT_fork rfl rfl ?_ ?_
 ·refine Cs g_aumbry_aumbrykeep_Within ((withinN_ok S220.le p (1048576 : Int) (by omega)).mono ?_)
  rintro e w222 ⟨rfl, hB221⟩
  have S223 := S220.call hB221
  refine ⟨_, rfl, trivial, ?_⟩
  refine Nt rfl (Ar ?_)
  refine T_re (v' := .int .i64 ((va : Nat) : Int)) (congrArg (Value.int .i64) hva) (Nt rfl (T_loadS 2 3 S223 rfl rfl rfl rfl rfl rfl rfl rfl rfl qV_3 (Nt rfl (Cs g_aumbry_aumbrykeep_Within ((withinN_ok S223.le u (1025 : Int) (by omega)).mono ?_)))))
  rintro e w225 ⟨rfl, hB224⟩
  have S226 := S223.call hB224
  refine ⟨_, rfl, trivial, ?_⟩
  refine T_re (v' := .int .i64 ((vd : Nat) : Int)) (congrArg (Value.int .i64) hvd) (Nt rfl (Fl 0 ?_))
  refine Nt rfl (T_store1S 2 0 S226 (fun _ _ => trivial) rfl rfl rfl rfl rfl rfl rfl rfl rfl rfl rfl rfl (Nat.lt_of_lt_of_eq (show 0 < 52 by decide) (show (qV p ((vk : Nat) : Int) ((vn : Nat) : Int) u s t : Value).cells.size = 52 from qV_sz (q_len hs ht rfl)).symm) fun w227 S228 => ?_)
  have S229 := S228.re 2 rfl (show (qV p ((vk : Nat) : Int) ((vn : Nat) : Int) u s t : Value).cells.setIfInBounds 0 (.int .i64 ((va : Nat) : Int)) = (qV ((va : Nat) : Int) ((vk : Nat) : Int) ((vn : Nat) : Int) u s t : Value).cells from qV_set0 _)
  refine Nt rfl (Fl 3 ?_)
  refine Nt rfl (T_store1S 2 3 S229 (fun _ _ => trivial) rfl rfl rfl rfl rfl rfl rfl rfl rfl rfl rfl rfl (Nat.lt_of_lt_of_eq (show 3 < 52 by decide) (show (qV ((va : Nat) : Int) ((vk : Nat) : Int) ((vn : Nat) : Int) u s t : Value).cells.size = 52 from qV_sz (q_len hs ht rfl)).symm) fun w230 S231 => ?_)
  have S232 := S231.re 2 rfl (show (qV ((va : Nat) : Int) ((vk : Nat) : Int) ((vn : Nat) : Int) u s t : Value).cells.setIfInBounds 3 (.int .i64 ((vd : Nat) : Int)) = (qV ((va : Nat) : Int) ((vk : Nat) : Int) ((vn : Nat) : Int) ((vd : Nat) : Int) s t : Value).cells from qV_set3 _)
  refine T_nil (TT_done (Wr (T_loadFS 2 S232 rfl rfl rfl rfl rfl rfl rfl rfl rfl (qV_sz (q_len hs ht rfl)) (Cs g_aumbry_layout_PackVersion ((packV_ok S232.le (hT.mono (hl98.trans (hl148.trans (hl163.trans (hl180.trans (hl184.trans hl200)))))) ((va : Nat) : Int) ((vk : Nat) : Int) ((vn : Nat) : Int) ((vd : Nat) : Int) (s := s) (t := t) hs ht (by omega) (by omega) (by omega) (by omega)).mono ?_)))))
  rintro e w238 ⟨a233, c234, hc235, rfl, ho236, hB237⟩
  have hl239 := packV_len ((va : Nat) : Int) ((vk : Nat) : Int) ((vn : Nat) : Int) ((vd : Nat) : Int) (s := s) (t := t) (by have : s.length = _ := hs; omega) (by have : t.length = _ := ht; omega)
  have S240 := S232.own hB237 ho236
  refine ⟨_, rfl, trivial, ?_⟩
  refine Pv (Nr ?_)
  refine Pv ?_
  obtain ⟨G242, hl243, S241, r244⟩ := S240.stillRow 0 rfl
  refine T_callS rfl rfl g_aumbry_layout_UnpackVersion rfl rfl rfl rfl ((unpackV_ok S241.le (hT.mono (hl98.trans (hl148.trans (hl163.trans (hl180.trans (hl184.trans (hl200.trans hl243))))))) r244 (by first | omega | decide)).mono ?_)
  rintro e w246 ⟨rfl, hB245⟩
  have S247 := S241.call hB245
  refine ⟨_, rfl, trivial, ?_⟩
  iterate 3 refine Pv ?_
  refine Ad S247 fun b248 w249 S250 => ?_
  refine Ah (hl := qV_sz (q_len (vS_len _) (vR_len _) rfl)) (hl2 := qV_sz (q_len (vS_len _) (vR_len _) rfl)) 0 S250 (qV_one) fun w251 S252 => ?_
  refine Pv (Nr ?_)
  iterate 3 refine Pv ?_
  refine Ar ?_
  refine T_re (v' := .int .i64 (((Z.length - 1) : Nat) : Int)) (congrArg (Value.int .i64) (by omega)) ?_
  refine T_sliceR 0 (Z.length - 1) (r149.mono (hl163.trans (hl180.trans (hl184.trans (hl200.trans hl243))))) rfl rfl rfl rfl rfl rfl rfl rfl rfl rfl (bound_of (by omega)) rfl (by omega) (by omega) fun a253 c254 hc255 r256 => ?_
  have r257 := Rd.cutB r256
  refine Cs g_aumbry_layout_UnpackShare ((unpackS_ok S252.le r257 (by simp only [List.length_take, List.length_drop]; omega)).mono ?_)
  rintro e w268 ⟨a258, c259, a260, c261, a262, c263, rfl, r264, r265, r266, hB267⟩
  obtain ⟨G270, eG272⟩ : ∃ G, G = F.ext G242 w251.heap.size w268 := ⟨_, rfl⟩
  obtain ⟨hl271, S269⟩ := S252.ext hB267
  rw [← eG272] at hl271 S269 r264 r265 r266
  refine ⟨_, rfl, trivial, ?_⟩
  iterate 3 refine Pv ?_
  refine Ad S269 fun b273 w274 S275 => ?_
  refine Ah (hl := by first | rfl | simp [hVs, *]) (hl2 := by first | rfl | simp [hVs, *]) 0 S275 (one_all rfl) fun w276 S277 => ?_
  refine Pv (Nr ?_)
  refine Pv ?_
  refine Cs g_aumbry_aumbrykeep_Copy_byte ((copyB_ok S277.le (r149.mono (hl163.trans (hl180.trans (hl184.trans (hl200.trans (hl243.trans hl271)))))) (by omega)).mono ?_)
  rintro e w283 ⟨a278, c279, hc280, rfl, ho281, hB282⟩
  have S284 := S277.own hB282 ho281
  refine ⟨_, rfl, trivial, ?_⟩
  refine Ae (hone := by simp [Value.cells]; rfl) ([(0 : UInt8)].map bV) fun a285 w286 hB287 ho288 => ?_
  have S289 := S284.own hB287 ho288
  refine ⟨trivial, ?_⟩
  refine Af (hn' := by first | rfl | (simp; done) | (simp; omega) | omega) (hx' := by simp) (h63 := by unfold maxLen; simp only [List.length_append, List.length_cons, List.length_nil]; omega) (hbytes := by show _ * 1 ≤ _; simp only [List.length_append, List.length_cons, List.length_nil]; omega) 1 ((Z ++ [(0 : UInt8)]).length) ((Z ++ [(0 : UInt8)]).map bV) S289 (S289.rd 0 rfl) (one_bV _) fun a290 c291 w292 hc293 S294 => ?_
  obtain ⟨G296, hl297, S295, r298⟩ := S294.stillRow 1 rfl
  refine Cs g_aumbry_layout_UnpackShare ((unpackS_ok S295.le r298 (by simp only [List.length_append, List.length_cons, List.length_nil]; omega)).mono ?_)
  rintro e w309 ⟨a299, c300, a301, c302, a303, c304, rfl, r305, r306, r307, hB308⟩
  obtain ⟨G311, eG313⟩ : ∃ G, G = F.ext G296 w292.heap.size w309 := ⟨_, rfl⟩
  obtain ⟨hl312, S310⟩ := S295.ext hB308
  rw [← eG313] at hl312 S310 r305 r306 r307
  refine ⟨_, rfl, trivial, ?_⟩
  iterate 3 refine Pv ?_
  refine Ad S310 fun b314 w315 S316 => ?_
  refine Ah (hl := by first | rfl | simp [hVs, *]) (hl2 := by first | rfl | simp [hVs, *]) 0 S316 (one_all rfl) fun w317 S318 => ?_
  refine Pv (Nr ?_)
  refine Pv ?_
  refine Cs g_aumbry_aumbrykeep_Copy_byte ((copyB_ok S318.le (r244.mono (hl271.trans (hl297.trans hl312))) (by omega)).mono ?_)
  rintro e w324 ⟨a319, c320, hc321, rfl, ho322, hB323⟩
  have S325 := S318.own hB323 ho322
  refine ⟨_, rfl, trivial, ?_⟩
  refine Ae (hone := by simp [Value.cells]; rfl) ([(0 : UInt8)].map bV) fun a326 w327 hB328 ho329 => ?_
  have S330 := S325.own hB328 ho329
  refine ⟨trivial, ?_⟩
  refine Af (hn' := by first | rfl | (simp; done) | (simp; omega) | omega) (hx' := by simp) (h63 := by unfold maxLen; simp only [List.length_append, List.length_cons, List.length_nil]; omega) (hbytes := by show _ * 1 ≤ _; simp only [List.length_append, List.length_cons, List.length_nil]; omega) 1 (((packV ((va : Nat) : Int) ((vk : Nat) : Int) ((vn : Nat) : Int) ((vd : Nat) : Int) s t) ++ [(0 : UInt8)]).length) (((packV ((va : Nat) : Int) ((vk : Nat) : Int) ((vn : Nat) : Int) ((vd : Nat) : Int) s t) ++ [(0 : UInt8)]).map bV) S330 (S330.rd 0 rfl) (one_bV _) fun a331 c332 w333 hc334 S335 => ?_
  obtain ⟨G337, hl338, S336, r339⟩ := S335.stillRow 1 rfl
  refine Cs g_aumbry_layout_UnpackVersion ((unpackV_ok S336.le (hT.mono (hl98.trans (hl148.trans (hl163.trans (hl180.trans (hl184.trans (hl200.trans (hl243.trans (hl271.trans (hl297.trans (hl312.trans hl338))))))))))) r339 (by simp only [List.length_append, List.length_cons, List.length_nil]; omega)).mono ?_)
  rintro e w341 ⟨rfl, hB340⟩
  have S342 := S336.call hB340
  refine ⟨_, rfl, trivial, ?_⟩
  iterate 3 refine Pv ?_
  refine Ad S342 fun b343 w344 S345 => ?_
  refine Ah (hl := qV_sz (q_len (vS_len _) (vR_len _) rfl)) (hl2 := qV_sz (q_len (vS_len _) (vR_len _) rfl)) 0 S345 (qV_one) fun w346 S347 => ?_
  refine Pv (Nr ?_)
  iterate 2 refine Pv ?_
  refine T_bool 146 true rfl (decide_eq_true hpv) (Ys ?_)
  refine T_loadFS 5 S347 rfl rfl rfl rfl rfl rfl rfl rfl rfl (qV_sz (q_len (vS_len _) (vR_len _) rfl)) (Ys ?_)
  refine T_loadFS 8 S347 rfl rfl rfl rfl rfl rfl rfl rfl rfl (qV_sz (q_len hs ht rfl)) (Ys ?_)
  refine T_eqQ rfl rfl rfl rfl (by kernel_rfl) rfl rfl rfl rfl rfl rfl rfl rfl rfl rfl rfl rfl rfl rfl rfl rfl rfl rfl rfl (by kernel_rfl) (by kernel_rfl) rfl rfl rfl (vS_len _) hs (vR_len _) ht ?_
  iterate 2 refine Pv ?_
  refine T_bool 151 true rfl (decide_eq_true ⟨hp0, hp1, hp2, hp3, hp4, hp5⟩) ?_
  iterate 2 (refine Ys ?_; refine Pv ?_)
  iterate 2 refine Pv ?_
  refine T_bool 155 true rfl (ndec_t (ShOk_less (b := Z) (k := Z.length - 1) hok (by omega))) ?_
  iterate 2 (refine Ys ?_; refine Pv ?_)
  iterate 2 refine Pv ?_
  refine T_bool 159 true rfl (ndec_t (ShOk_app hok (by decide))) ?_
  iterate 2 (refine Ys ?_; refine Pv ?_)
  iterate 2 refine Pv ?_
  refine T_bool 163 true rfl (ndec_t (VerOk_app hpv (by decide))) ?_
  refine Ys ?_
  refine Cs g_aumbry_aumbrylaw14_wakes ((wakes_ok S347.le (hT.mono (hl98.trans (hl148.trans (hl163.trans (hl180.trans (hl184.trans (hl200.trans (hl243.trans (hl271.trans (hl297.trans (hl312.trans hl338)))))))))))).mono ?_)
  rintro e w349 ⟨rfl, hB348⟩
  have S350 := S347.call hB348
  refine ⟨_, rfl, trivial, ?_⟩
  iterate 2 refine Pv ?_
  refine T_nil (W_ret ?_)
  refine ⟨_, ⟨_, _, rfl, rfl, rfl⟩, ?_⟩
  exact ⟨rfl, S350.below⟩
 refine T_loadS 2 3 S220 rfl rfl rfl rfl rfl rfl rfl rfl rfl qV_3 (Nt rfl (Cs g_aumbry_aumbrykeep_Within ((withinN_ok S220.le p (1048576 : Int) (by omega)).mono ?_)))
 rintro e w352 ⟨rfl, hB351⟩
 have S353 := S220.call hB351
 refine ⟨_, rfl, trivial, ?_⟩
 refine Nt rfl (Ar ?_)
 refine T_re (v' := .int .i64 ((va : Nat) : Int)) (congrArg (Value.int .i64) hva) (Nt rfl (Cs g_aumbry_aumbrykeep_Within ((withinN_ok S353.le u (1025 : Int) (by omega)).mono ?_)))
 rintro e w355 ⟨rfl, hB354⟩
 have S356 := S353.call hB354
 refine ⟨_, rfl, trivial, ?_⟩
 refine T_re (v' := .int .i64 ((vd : Nat) : Int)) (congrArg (Value.int .i64) hvd) (Nt rfl (Fl 0 ?_))
 refine Nt rfl (T_store1S 2 0 S356 (fun _ _ => trivial) rfl rfl rfl rfl rfl rfl rfl rfl rfl rfl rfl rfl (Nat.lt_of_lt_of_eq (show 0 < 52 by decide) (show (qV p ((vk : Nat) : Int) ((vn : Nat) : Int) u s t : Value).cells.size = 52 from qV_sz (q_len hs ht rfl)).symm) fun w357 S358 => ?_)
 have S359 := S358.re 2 rfl (show (qV p ((vk : Nat) : Int) ((vn : Nat) : Int) u s t : Value).cells.setIfInBounds 0 (.int .i64 ((va : Nat) : Int)) = (qV ((va : Nat) : Int) ((vk : Nat) : Int) ((vn : Nat) : Int) u s t : Value).cells from qV_set0 _)
 refine Nt rfl (Fl 3 ?_)
 refine Nt rfl (T_store1S 2 3 S359 (fun _ _ => trivial) rfl rfl rfl rfl rfl rfl rfl rfl rfl rfl rfl rfl (Nat.lt_of_lt_of_eq (show 3 < 52 by decide) (show (qV ((va : Nat) : Int) ((vk : Nat) : Int) ((vn : Nat) : Int) u s t : Value).cells.size = 52 from qV_sz (q_len hs ht rfl)).symm) fun w360 S361 => ?_)
 have S362 := S361.re 2 rfl (show (qV ((va : Nat) : Int) ((vk : Nat) : Int) ((vn : Nat) : Int) u s t : Value).cells.setIfInBounds 3 (.int .i64 ((vd : Nat) : Int)) = (qV ((va : Nat) : Int) ((vk : Nat) : Int) ((vn : Nat) : Int) ((vd : Nat) : Int) s t : Value).cells from qV_set3 _)
 refine T_nil (TT_done (Wr (T_loadFS 2 S362 rfl rfl rfl rfl rfl rfl rfl rfl rfl (qV_sz (q_len hs ht rfl)) (Cs g_aumbry_layout_PackVersion ((packV_ok S362.le (hT.mono (hl98.trans (hl148.trans (hl163.trans (hl180.trans (hl184.trans hl200)))))) ((va : Nat) : Int) ((vk : Nat) : Int) ((vn : Nat) : Int) ((vd : Nat) : Int) (s := s) (t := t) hs ht (by omega) (by omega) (by omega) (by omega)).mono ?_)))))
 rintro e w368 ⟨a363, c364, hc365, rfl, ho366, hB367⟩
 have hl369 := packV_len ((va : Nat) : Int) ((vk : Nat) : Int) ((vn : Nat) : Int) ((vd : Nat) : Int) (s := s) (t := t) (by have : s.length = _ := hs; omega) (by have : t.length = _ := ht; omega)
 have S370 := S362.own hB367 ho366
 refine ⟨_, rfl, trivial, ?_⟩
 refine Pv (Nr ?_)
 refine Pv ?_
 obtain ⟨G372, hl373, S371, r374⟩ := S370.stillRow 0 rfl
 refine T_callS rfl rfl g_aumbry_layout_UnpackVersion rfl rfl rfl rfl ((unpackV_ok S371.le (hT.mono (hl98.trans (hl148.trans (hl163.trans (hl180.trans (hl184.trans (hl200.trans hl373))))))) r374 (by first | omega | decide)).mono ?_)
 rintro e w376 ⟨rfl, hB375⟩
 have S377 := S371.call hB375
 refine ⟨_, rfl, trivial, ?_⟩
 iterate 3 refine Pv ?_
 refine Ad S377 fun b378 w379 S380 => ?_
 refine Ah (hl := qV_sz (q_len (vS_len _) (vR_len _) rfl)) (hl2 := qV_sz (q_len (vS_len _) (vR_len _) rfl)) 0 S380 (qV_one) fun w381 S382 => ?_
 refine Pv (Nr ?_)
 iterate 3 refine Pv ?_
 refine Ar ?_
 refine T_re (v' := .int .i64 (((Z.length - 1) : Nat) : Int)) (congrArg (Value.int .i64) (by omega)) ?_
 refine T_sliceR 0 (Z.length - 1) (r149.mono (hl163.trans (hl180.trans (hl184.trans (hl200.trans hl373))))) rfl rfl rfl rfl rfl rfl rfl rfl rfl rfl (bound_of (by omega)) rfl (by omega) (by omega) fun a383 c384 hc385 r386 => ?_
 have r387 := Rd.cutB r386
 refine Cs g_aumbry_layout_UnpackShare ((unpackS_ok S382.le r387 (by simp only [List.length_take, List.length_drop]; omega)).mono ?_)
 rintro e w398 ⟨a388, c389, a390, c391, a392, c393, rfl, r394, r395, r396, hB397⟩
 obtain ⟨G400, eG402⟩ : ∃ G, G = F.ext G372 w381.heap.size w398 := ⟨_, rfl⟩
 obtain ⟨hl401, S399⟩ := S382.ext hB397
 rw [← eG402] at hl401 S399 r394 r395 r396
 refine ⟨_, rfl, trivial, ?_⟩
 iterate 3 refine Pv ?_
 refine Ad S399 fun b403 w404 S405 => ?_
 refine Ah (hl := by first | rfl | simp [hVs, *]) (hl2 := by first | rfl | simp [hVs, *]) 0 S405 (one_all rfl) fun w406 S407 => ?_
 refine Pv (Nr ?_)
 refine Pv ?_
 refine Cs g_aumbry_aumbrykeep_Copy_byte ((copyB_ok S407.le (r149.mono (hl163.trans (hl180.trans (hl184.trans (hl200.trans (hl373.trans hl401)))))) (by omega)).mono ?_)
 rintro e w413 ⟨a408, c409, hc410, rfl, ho411, hB412⟩
 have S414 := S407.own hB412 ho411
 refine ⟨_, rfl, trivial, ?_⟩
 refine Ae (hone := by simp [Value.cells]; rfl) ([(0 : UInt8)].map bV) fun a415 w416 hB417 ho418 => ?_
 have S419 := S414.own hB417 ho418
 refine ⟨trivial, ?_⟩
 refine Af (hn' := by first | rfl | (simp; done) | (simp; omega) | omega) (hx' := by simp) (h63 := by unfold maxLen; simp only [List.length_append, List.length_cons, List.length_nil]; omega) (hbytes := by show _ * 1 ≤ _; simp only [List.length_append, List.length_cons, List.length_nil]; omega) 1 ((Z ++ [(0 : UInt8)]).length) ((Z ++ [(0 : UInt8)]).map bV) S419 (S419.rd 0 rfl) (one_bV _) fun a420 c421 w422 hc423 S424 => ?_
 obtain ⟨G426, hl427, S425, r428⟩ := S424.stillRow 1 rfl
 refine Cs g_aumbry_layout_UnpackShare ((unpackS_ok S425.le r428 (by simp only [List.length_append, List.length_cons, List.length_nil]; omega)).mono ?_)
 rintro e w439 ⟨a429, c430, a431, c432, a433, c434, rfl, r435, r436, r437, hB438⟩
 obtain ⟨G441, eG443⟩ : ∃ G, G = F.ext G426 w422.heap.size w439 := ⟨_, rfl⟩
 obtain ⟨hl442, S440⟩ := S425.ext hB438
 rw [← eG443] at hl442 S440 r435 r436 r437
 refine ⟨_, rfl, trivial, ?_⟩
 iterate 3 refine Pv ?_
 refine Ad S440 fun b444 w445 S446 => ?_
 refine Ah (hl := by first | rfl | simp [hVs, *]) (hl2 := by first | rfl | simp [hVs, *]) 0 S446 (one_all rfl) fun w447 S448 => ?_
 refine Pv (Nr ?_)
 refine Pv ?_
 refine Cs g_aumbry_aumbrykeep_Copy_byte ((copyB_ok S448.le (r374.mono (hl401.trans (hl427.trans hl442))) (by omega)).mono ?_)
 rintro e w454 ⟨a449, c450, hc451, rfl, ho452, hB453⟩
 have S455 := S448.own hB453 ho452
 refine ⟨_, rfl, trivial, ?_⟩
 refine Ae (hone := by simp [Value.cells]; rfl) ([(0 : UInt8)].map bV) fun a456 w457 hB458 ho459 => ?_
 have S460 := S455.own hB458 ho459
 refine ⟨trivial, ?_⟩
 refine Af (hn' := by first | rfl | (simp; done) | (simp; omega) | omega) (hx' := by simp) (h63 := by unfold maxLen; simp only [List.length_append, List.length_cons, List.length_nil]; omega) (hbytes := by show _ * 1 ≤ _; simp only [List.length_append, List.length_cons, List.length_nil]; omega) 1 (((packV ((va : Nat) : Int) ((vk : Nat) : Int) ((vn : Nat) : Int) ((vd : Nat) : Int) s t) ++ [(0 : UInt8)]).length) (((packV ((va : Nat) : Int) ((vk : Nat) : Int) ((vn : Nat) : Int) ((vd : Nat) : Int) s t) ++ [(0 : UInt8)]).map bV) S460 (S460.rd 0 rfl) (one_bV _) fun a461 c462 w463 hc464 S465 => ?_
 obtain ⟨G467, hl468, S466, r469⟩ := S465.stillRow 1 rfl
 refine Cs g_aumbry_layout_UnpackVersion ((unpackV_ok S466.le (hT.mono (hl98.trans (hl148.trans (hl163.trans (hl180.trans (hl184.trans (hl200.trans (hl373.trans (hl401.trans (hl427.trans (hl442.trans hl468))))))))))) r469 (by simp only [List.length_append, List.length_cons, List.length_nil]; omega)).mono ?_)
 rintro e w471 ⟨rfl, hB470⟩
 have S472 := S466.call hB470
 refine ⟨_, rfl, trivial, ?_⟩
 iterate 3 refine Pv ?_
 refine Ad S472 fun b473 w474 S475 => ?_
 refine Ah (hl := qV_sz (q_len (vS_len _) (vR_len _) rfl)) (hl2 := qV_sz (q_len (vS_len _) (vR_len _) rfl)) 0 S475 (qV_one) fun w476 S477 => ?_
 refine Pv (Nr ?_)
 iterate 2 refine Pv ?_
 refine T_bool 146 true rfl (decide_eq_true hpv) (Ys ?_)
 refine T_loadFS 5 S477 rfl rfl rfl rfl rfl rfl rfl rfl rfl (qV_sz (q_len (vS_len _) (vR_len _) rfl)) (Ys ?_)
 refine T_loadFS 8 S477 rfl rfl rfl rfl rfl rfl rfl rfl rfl (qV_sz (q_len hs ht rfl)) (Ys ?_)
 refine T_eqQ rfl rfl rfl rfl (by kernel_rfl) rfl rfl rfl rfl rfl rfl rfl rfl rfl rfl rfl rfl rfl rfl rfl rfl rfl rfl rfl (by kernel_rfl) (by kernel_rfl) rfl rfl rfl (vS_len _) hs (vR_len _) ht ?_
 iterate 2 refine Pv ?_
 refine T_bool 151 true rfl (decide_eq_true ⟨hp0, hp1, hp2, hp3, hp4, hp5⟩) ?_
 iterate 2 (refine Ys ?_; refine Pv ?_)
 iterate 2 refine Pv ?_
 refine T_bool 155 true rfl (ndec_t (ShOk_less (b := Z) (k := Z.length - 1) hok (by omega))) ?_
 iterate 2 (refine Ys ?_; refine Pv ?_)
 iterate 2 refine Pv ?_
 refine T_bool 159 true rfl (ndec_t (ShOk_app hok (by decide))) ?_
 iterate 2 (refine Ys ?_; refine Pv ?_)
 iterate 2 refine Pv ?_
 refine T_bool 163 true rfl (ndec_t (VerOk_app hpv (by decide))) ?_
 refine Ys ?_
 refine Cs g_aumbry_aumbrylaw14_wakes ((wakes_ok S477.le (hT.mono (hl98.trans (hl148.trans (hl163.trans (hl180.trans (hl184.trans (hl200.trans (hl373.trans (hl401.trans (hl427.trans (hl442.trans hl468)))))))))))).mono ?_)
 rintro e w479 ⟨rfl, hB478⟩
 have S480 := S477.call hB478
 refine ⟨_, rfl, trivial, ?_⟩
 iterate 2 refine Pv ?_
 refine T_nil (W_ret ?_)
 refine ⟨_, ⟨_, _, rfl, rfl, rfl⟩, ?_⟩
 exact ⟨rfl, S480.below⟩

end Go.Proofs.YtmjmjjkigblbgaaDoor
