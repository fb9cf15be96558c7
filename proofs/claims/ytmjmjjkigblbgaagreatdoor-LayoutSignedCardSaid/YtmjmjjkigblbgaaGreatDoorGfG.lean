/- Pieces of a version; the statement. -/
import Derived.Test.YtmjmjjkigblbgaaGreatDoorGfF
import Derived.Test.YtmjmjjkigblbgaaGreatDoorLayZC
import Derived.Test.YtmjmjjkigblbgaaGreatDoorFDoor
set_option linter.unusedVariables false
set_option linter.unusedSimpArgs false
set_option maxRecDepth 8192
namespace Go.Proofs.YtmjmjjkigblbgaaGreatDoor
open Go Go.F Go.RowKit

theorem g_aumbry_aumbrylaw14_pieces : goFn Tryz.prog 16 = true := by kernel_rfl
set_option maxHeartbeats 1000000 in
theorem pieces_ok {H : Hp} {w : World} (hH : H.le (hw w)) {seed : List UInt8} (hs : seed.length = 16) (h leaf : Int) (hm : 0 ≤ h ∧ h ≤ 4) (hr : 0 ≤ leaf ∧ leaf < ((2 ^ h.toNat : Nat) : Int)) {l : List UInt8} {aa3 : Option Addr} {nn3 cc3 : Nat} (hv : Rd H (.slice aa3 nn3 cc3) nn3 1 (l.map bV)) (k n : Nat) (hl : l.length ≤ 60) (hk : 1 ≤ k ∧ k ≤ 5) (hn : k ≤ n ∧ n ≤ 5) :
  Calls Tryz.prog 16 #[hV seed, .int .i64 h, .int .i64 leaf, .slice aa3 nn3 cc3, .int .i64 ((k : Nat) : Int), .int .i64 ((n : Nat) : Int)] w fun e w' => ∃ a c vs, e = .returned (.slice a n c) ∧ RdPc (F.ext H w.heap.size w') (.slice a n c) vs ∧ vs.length = n ∧ Below w.heap.size w w' := by
 obtain rfl : nn3 = l.length := hv.lenB
 have hvcap : l.length ≤ cc3 := hv.capOf
 have hp16 := Go.Au.pow16 (h := h) (by omega) (by omega)
 refine enter6 _ Tryz.func16 rfl Tryz.ntmps16 Tryz.results16 rfl ?_
 have S0 := St.start w hH
 refine Wr ?_
 refine T_boxS S0 (fun _ _ => trivial) rfl rfl rfl rfl rfl rfl fun b1 w2 S3 => ?_
 refine Pv ?_
 refine T_nil ?_
 refine Wr ?_
 iterate 4 refine Pv ?_
 refine T_buildS (cells := (qV (3 : Int) ((k : Nat) : Int) ((n : Nat) : Int) ((l.length : Nat) : Int) (List.replicate 16 0) (List.replicate 32 0) : Value).cells) rfl rfl rfl rfl rfl rfl fill_q16v rfl rfl rfl ?_
 refine T_allocS S3 (fun _ _ => trivial) rfl rfl rfl rfl rfl rfl rfl fun b4 w5 S6 => ?_
 refine T_storeFS 0 S6 (fun _ _ => trivial) rfl rfl rfl rfl rfl rfl rfl rfl rfl (qV_sz (q_len (List.length_replicate (n := 16) (a := (0 : UInt8))) (List.length_replicate (n := 32) (a := (0 : UInt8))) rfl)) (qV_sz (q_len (List.length_replicate (n := 16) (a := (0 : UInt8))) (List.length_replicate (n := 32) (a := (0 : UInt8))) rfl)) (qV_one) fun w7 S8 => ?_
 refine T_nil ?_
 refine Wr ?_
 iterate 3 refine Pv ?_
 refine Cs g_aumbry_aumbryref18_Blocks ((rblocks_ok S8.le hv k n (by omega) (by omega) (by omega)).mono ?_)
 rintro e w13 ⟨a9, c10, q, m, D, rfl, r11, hDl, hDx, hqk, hm, hB12⟩
 obtain ⟨G15, eG17⟩ : ∃ G, G = F.ext H w7.heap.size w13 := ⟨_, rfl⟩
 obtain ⟨hl16, S14⟩ := S8.ext hB12
 rw [← eG17] at hl16 S14 r11
 refine ⟨_, rfl, trivial, ?_⟩
 refine Pv ?_
 refine T_nil ?_
 refine Wr ?_
 refine Pv ?_
 have hq1 : q ≤ k * q := Nat.le_mul_of_pos_left q (by omega)
 have HX1 : ∀ x ∈ D, x.length < 1000 := fun x hx => by rw [hDx x hx]; omega
 refine Cs g_aumbry_aumbryref13_Leaves ((bleavesR_ok S14.le r11 (by omega) HX1).mono ?_)
 rintro e w23 ⟨a18, c19, hc20, rfl, ho21, hB22⟩
 have S24 := S14.own hB22 ho21
 refine ⟨_, rfl, trivial, ?_⟩
 refine Pv ?_
 refine T_nil ?_
 refine Wr ?_
 refine Pv ?_
 have hlv : (Go.Au.leavesH D D.length).length = D.length := Go.Au.leavesH_len _
 obtain ⟨G26, hl27, S25, r28⟩ := S24.stillRow 0 rfl
 have r29 := RdH.mk (leavesH_all _ _) (by decide) r28
 refine Cs g_aumbry_aumbryref07_Root ((rootR_ok S25.le r29 (by omega)).mono ?_)
 rintro e w31 ⟨rfl, hB30⟩
 have S32 := S25.call hB30
 refine ⟨_, rfl, trivial, ?_⟩
 refine Fl 20 ?_
 refine T_storeS 0 S32 (fun _ _ => trivial) rfl rfl rfl rfl rfl rfl rfl rfl (hVs (Go.Au.root_len r29.1)) (by show _ + (hV (Go.Au.root (Go.Au.leavesH D D.length)) : Value).cells.size ≤ (qV (3 : Int) ((k : Nat) : Int) ((n : Nat) : Int) ((l.length : Nat) : Int) (List.replicate 16 0) (List.replicate 32 0) : Value).cells.size; rw [show (hV (Go.Au.root (Go.Au.leavesH D D.length)) : Value).cells.size = 32 from hVs (Go.Au.root_len r29.1), show (qV (3 : Int) ((k : Nat) : Int) ((n : Nat) : Int) ((l.length : Nat) : Int) (List.replicate 16 0) (List.replicate 32 0) : Value).cells.size = 52 from qV_sz (q_len (List.length_replicate (n := 16) (a := (0 : UInt8))) (List.length_replicate (n := 32) (a := (0 : UInt8))) rfl)]; decide) (one_hA _) fun w33 S34 => ?_
 have S35 := S34.re 0 rfl (show _ = (qV (3 : Int) ((k : Nat) : Int) ((n : Nat) : Int) ((l.length : Nat) : Int) (List.replicate 16 0) (Go.Au.root (Go.Au.leavesH D D.length)) : Value).cells from qV_putT (a := (3 : Int)) (b := ((k : Nat) : Int)) (c := ((n : Nat) : Int)) (d := ((l.length : Nat) : Int)) (s := (List.replicate 16 0)) (t := (List.replicate 32 0)) (x := Go.Au.root (Go.Au.leavesH D D.length)) (m := 16) (List.length_replicate (n := 16) (a := (0 : UInt8))) (List.length_replicate (n := 32) (a := (0 : UInt8))) (Go.Au.root_len r29.1))
 refine T_nil ?_
 refine W_j1 (fun ρ w' => ∃ (b69 : Nat) (a57 : Option Addr) (c58 : Nat) (a59 : Option Addr) (c60 : Nat) (G78 : Hp), ρ = [(13, .pointer (some ⟨b4, 0, none⟩)), (14, .slice a9 n c10), (15, .slice a18 D.length c19), (16, .pointer (some ⟨b69, 0, none⟩))] ∧ G26.le G78 ∧ St w H G78 [] w' ∧ G78 b4 = some (.cells (qV (3 : Int) ((k : Nat) : Int) ((n : Nat) : Int) ((l.length : Nat) : Int) (List.replicate 16 0) (Go.Au.root (Go.Au.leavesH D D.length)) : Value).cells 54 (0, 0)) ∧ G78 b69 = some (.cells (.agg #[.int .i64 h, .int .i64 leaf, .slice a57 67 c58, .slice a59 (Go.Au.lg (Go.Au.mleaves seed h.toNat).length) c60] : Value).cells 56 (0, 0)) ∧ RdH G78 (.slice a57 67 c58) 32 (Go.Au.sign seed leaf (Go.Au.packV (3 : Int) ((k : Nat) : Int) ((n : Nat) : Int) ((l.length : Nat) : Int) (List.replicate 16 0) (Go.Au.root (Go.Au.leavesH D D.length))) 67) ∧ RdH G78 (.slice a59 (Go.Au.lg (Go.Au.mleaves seed h.toNat).length) c60) 32 (Go.Au.beside (Go.Au.rowP (Go.Au.mleaves seed h.toNat)) leaf.toNat (Go.Au.lg (Go.Au.mleaves seed h.toNat).length))) ?_ (fun J82 => ?_)
 ·rintro ρ w81 ⟨b69, a57, c58, a59, c60, G78, rfl, hl79, S80, r83, r84, r85, r86⟩
  refine Wr ?_
  refine Pv ?_
  refine T_nil ?_
  refine W_seq ?_
  refine Wr ?_
  iterate 3 refine Pv ?_
  refine T_nil ?_
  refine W_block ?_
  have S87 := S80.nilRow 58 59
  refine W_loop (fun M ρ w' => ∃ (i : Nat) (vs : List Value) (a90 : Option Addr) (c91 : Nat) (G88 : Hp), M = n - i ∧ i ≤ n ∧ vs.length = i ∧ ρ = [(13, .pointer (some ⟨b4, 0, none⟩)), (14, .slice a9 n c10), (15, .slice a18 D.length c19), (16, .pointer (some ⟨b69, 0, none⟩)), (17, .slice a90 i c91), (40, .int .i64 ((n : Nat) : Int)), (41, .int .i64 (i : Int))] ∧ G78.le G88 ∧ St w H G88 [.row 58 59 (.slice a90 i c91) i (valsC vs)] w' ∧ PcAll G88 vs ∧ i ≤ c91)
   (n - 0) [(13, .pointer (some ⟨b4, 0, none⟩)), (14, .slice a9 n c10), (15, .slice a18 D.length c19), (16, .pointer (some ⟨b69, 0, none⟩)), (17, .slice none 0 0), (40, .int .i64 ((n : Nat) : Int)), (41, .int .i64 ((0 : Nat) : Int))] ⟨rfl, rfl, rfl, rfl, rfl, (congrArg (fun z => some (Value.int .i64 z)) (by omega)), (congrArg (fun z => some (Value.int .i64 z)) (by omega)), trivial⟩ ⟨0, [], none, 0, G78, rfl, (by exact Nat.zero_le _), (by rfl), rfl, Hp.le.refl _, S87, (PcAll.nil _), (Nat.le_refl _)⟩ ?_
  rintro M ρ w94 ⟨i, vs, a90, c91, G88, rfl, hp96, hvl, rfl, hl89, S95, rs93, hc92⟩
  refine Wr ?_
  refine Pv ?_
  refine T_nil ?_
  refine W_seq ?_
  refine W_cond_dec rfl (fun h98 => ?_) (fun h98 => ?_)
  ·refine W_skip ?_
   refine W_seq ?_
   refine W_block ?_
   refine Wr ?_
   iterate 2 refine Pv ?_
   refine T_nil ?_
   refine W_plan (planF Tryz.prog G88 [46, 47, 54]) rfl (by kernel_rfl) S95.le ?_
   have S99 := S95.drew
   iterate 2 refine Pv ?_
   refine T_loadGAP _ (fun _ h => h) (still_cells (hl89 _ _ r83)) rfl rfl rfl rfl rfl rfl rfl rfl (qV_sz (q_len (List.length_replicate (n := 16) (a := (0 : UInt8))) (Go.Au.root_len r29.1) rfl)) ?_
   refine T_loadGAP _ (fun _ h => h) (still_cells (hl89 _ _ r84)) rfl rfl rfl rfl rfl rfl rfl rfl (by first | rfl | simp [hVs, *]) ?_
   iterate 2 refine Pv ?_
   have hel : (D.getD i []).length = q := getD_len hDx (by omega)
   refine Cs g_aumbry_aumbryref07_Proof ((proofR_ok S99.le (i : Int) (r29.mono (hl79.trans hl89)) (by omega) (by omega)).mono ?_)
   rintro e w105 ⟨a100, c101, hc102, rfl, ho103, hB104⟩
   have S106 := S99.own hB104 ho103
   refine ⟨_, rfl, (((Hp.le.refl _)).trans S106.le), ?_⟩
   iterate 2 refine Pv ?_
   obtain ⟨hs110, r111, r112⟩ := (r11.mono (hl27.trans (hl79.trans hl89)))
   refine T_idxR i r111 rfl rfl rfl rfl rfl rfl rfl rfl rfl (by omega) (by omega) fun b107 o108 hc109 => ?_
   obtain ⟨a115, c116, hc118, hv114, r117⟩ := r112.at i (by omega)
   have hc119 := hc109 0 (.slice a115 (D.getD i []).length c116) (by simpa using hv114)
   simp only [Nat.add_zero] at hc119
   refine T_loadGP (fun _ h => h) hc119 rfl rfl rfl rfl rfl rfl rfl ?_
   obtain ⟨G121, hl122, S120, r123⟩ := S106.stillRow 0 rfl
   have r124 := RdH.mk (Go.Au.beside_all (r29.mono (hl79.trans hl89)).1 (by omega) (Nat.le_refl _)) (by decide) r123
   refine T_buildS (cells := (gV [[.int .i64 (i : Int)], [.int .i64 3], [.int .i64 ((k : Nat) : Int)], [.int .i64 ((n : Nat) : Int)], [.int .i64 ((l.length : Nat) : Int)], (List.replicate 16 0).map bV, (Go.Au.root (Go.Au.leavesH D D.length)).map bV, [.int .i64 h], [.int .i64 leaf], [.slice a57 67 c58], [.slice a59 (Go.Au.lg (Go.Au.mleaves seed h.toNat).length) c60], [.slice a100 (Go.Au.lg (Go.Au.leavesH D D.length).length) c101], [.slice a115 (D.getD i []).length c116]] : Value).cells) rfl rfl rfl rfl rfl rfl (fill_g (L := [[.int .i64 0], [.int .i64 0], [.int .i64 0], [.int .i64 0], [.int .i64 0], (List.replicate 16 0).map bV, (List.replicate 32 0).map bV, [.int .i64 0], [.int .i64 0], [.slice none 0 0], [.slice none 0 0], [.slice none 0 0], [.slice none 0 0]]) (ns := [1, 1, 1, 1, 1, 16, 32, 1, 1, 1, 1, 1, 1]) (v := .int .i64 (i : Int)) (off := 0) (k := 1) rfl (Shp.cons rfl (Shp.cons rfl (Shp.cons rfl (Shp.cons rfl (Shp.cons rfl (Shp.cons (lenB List.length_replicate) (Shp.cons (lenB List.length_replicate) (Shp.cons rfl (Shp.cons rfl (Shp.cons rfl (Shp.cons rfl (Shp.cons rfl (Shp.cons rfl Shp.nil))))))))))))) 0 1 [[.int .i64 (i : Int)]] rfl (by first | rfl | simp [hVs, *]) rfl rfl (fill_g (L := [[.int .i64 (i : Int)], [.int .i64 0], [.int .i64 0], [.int .i64 0], [.int .i64 0], (List.replicate 16 0).map bV, (List.replicate 32 0).map bV, [.int .i64 0], [.int .i64 0], [.slice none 0 0], [.slice none 0 0], [.slice none 0 0], [.slice none 0 0]]) (ns := [1, 1, 1, 1, 1, 16, 32, 1, 1, 1, 1, 1, 1]) (v := qV (3 : Int) ((k : Nat) : Int) ((n : Nat) : Int) ((l.length : Nat) : Int) (List.replicate 16 0) (Go.Au.root (Go.Au.leavesH D D.length))) (off := 1) (k := 52) rfl (Shp.cons rfl (Shp.cons rfl (Shp.cons rfl (Shp.cons rfl (Shp.cons rfl (Shp.cons (lenB List.length_replicate) (Shp.cons (lenB List.length_replicate) (Shp.cons rfl (Shp.cons rfl (Shp.cons rfl (Shp.cons rfl (Shp.cons rfl (Shp.cons rfl Shp.nil))))))))))))) 1 6 [[.int .i64 3], [.int .i64 ((k : Nat) : Int)], [.int .i64 ((n : Nat) : Int)], [.int .i64 ((l.length : Nat) : Int)], (List.replicate 16 0).map bV, (Go.Au.root (Go.Au.leavesH D D.length)).map bV] qV_flat (qV_sz (q_len (List.length_replicate (n := 16) (a := (0 : UInt8))) (Go.Au.root_len r29.1) rfl)) rfl rfl (fill_g (L := [[.int .i64 (i : Int)], [.int .i64 3], [.int .i64 ((k : Nat) : Int)], [.int .i64 ((n : Nat) : Int)], [.int .i64 ((l.length : Nat) : Int)], (List.replicate 16 0).map bV, (Go.Au.root (Go.Au.leavesH D D.length)).map bV, [.int .i64 0], [.int .i64 0], [.slice none 0 0], [.slice none 0 0], [.slice none 0 0], [.slice none 0 0]]) (ns := [1, 1, 1, 1, 1, 16, 32, 1, 1, 1, 1, 1, 1]) (v := .agg #[.int .i64 h, .int .i64 leaf, .slice a57 67 c58, .slice a59 (Go.Au.lg (Go.Au.mleaves seed h.toNat).length) c60]) (off := 53) (k := 4) rfl (Shp.cons rfl (Shp.cons rfl (Shp.cons rfl (Shp.cons rfl (Shp.cons rfl (Shp.cons (lenB (List.length_replicate (n := 16) (a := (0 : UInt8)))) (Shp.cons (lenB (Go.Au.root_len r29.1)) (Shp.cons rfl (Shp.cons rfl (Shp.cons rfl (Shp.cons rfl (Shp.cons rfl (Shp.cons rfl Shp.nil))))))))))))) 7 4 [[.int .i64 h], [.int .i64 leaf], [.slice a57 67 c58], [.slice a59 (Go.Au.lg (Go.Au.mleaves seed h.toNat).length) c60]] rfl (by first | rfl | simp [hVs, *]) rfl rfl (fill_g (L := [[.int .i64 (i : Int)], [.int .i64 3], [.int .i64 ((k : Nat) : Int)], [.int .i64 ((n : Nat) : Int)], [.int .i64 ((l.length : Nat) : Int)], (List.replicate 16 0).map bV, (Go.Au.root (Go.Au.leavesH D D.length)).map bV, [.int .i64 h], [.int .i64 leaf], [.slice a57 67 c58], [.slice a59 (Go.Au.lg (Go.Au.mleaves seed h.toNat).length) c60], [.slice none 0 0], [.slice none 0 0]]) (ns := [1, 1, 1, 1, 1, 16, 32, 1, 1, 1, 1, 1, 1]) (v := .slice a100 (Go.Au.lg (Go.Au.leavesH D D.length).length) c101) (off := 57) (k := 1) rfl (Shp.cons rfl (Shp.cons rfl (Shp.cons rfl (Shp.cons rfl (Shp.cons rfl (Shp.cons (lenB (List.length_replicate (n := 16) (a := (0 : UInt8)))) (Shp.cons (lenB (Go.Au.root_len r29.1)) (Shp.cons rfl (Shp.cons rfl (Shp.cons rfl (Shp.cons rfl (Shp.cons rfl (Shp.cons rfl Shp.nil))))))))))))) 11 1 [[.slice a100 (Go.Au.lg (Go.Au.leavesH D D.length).length) c101]] rfl (by first | rfl | simp [hVs, *]) rfl rfl (fill_g (L := [[.int .i64 (i : Int)], [.int .i64 3], [.int .i64 ((k : Nat) : Int)], [.int .i64 ((n : Nat) : Int)], [.int .i64 ((l.length : Nat) : Int)], (List.replicate 16 0).map bV, (Go.Au.root (Go.Au.leavesH D D.length)).map bV, [.int .i64 h], [.int .i64 leaf], [.slice a57 67 c58], [.slice a59 (Go.Au.lg (Go.Au.mleaves seed h.toNat).length) c60], [.slice a100 (Go.Au.lg (Go.Au.leavesH D D.length).length) c101], [.slice none 0 0]]) (ns := [1, 1, 1, 1, 1, 16, 32, 1, 1, 1, 1, 1, 1]) (v := .slice a115 (D.getD i []).length c116) (off := 58) (k := 1) rfl (Shp.cons rfl (Shp.cons rfl (Shp.cons rfl (Shp.cons rfl (Shp.cons rfl (Shp.cons (lenB (List.length_replicate (n := 16) (a := (0 : UInt8)))) (Shp.cons (lenB (Go.Au.root_len r29.1)) (Shp.cons rfl (Shp.cons rfl (Shp.cons rfl (Shp.cons rfl (Shp.cons rfl (Shp.cons rfl Shp.nil))))))))))))) 12 1 [[.slice a115 (D.getD i []).length c116]] rfl (by first | rfl | simp [hVs, *]) rfl rfl fill_gnil))))) rfl rfl rfl ?_
   have rs129 : PcG G121 (gV [[.int .i64 (i : Int)], [.int .i64 3], [.int .i64 ((k : Nat) : Int)], [.int .i64 ((n : Nat) : Int)], [.int .i64 ((l.length : Nat) : Int)], (List.replicate 16 0).map bV, (Go.Au.root (Go.Au.leavesH D D.length)).map bV, [.int .i64 h], [.int .i64 leaf], [.slice a57 67 c58], [.slice a59 (Go.Au.lg (Go.Au.mleaves seed h.toNat).length) c60], [.slice a100 (Go.Au.lg (Go.Au.leavesH D D.length).length) c101], [.slice a115 (D.getD i []).length c116]]) := ⟨_, _, _, _, _, _, _, _, _, _, _, _, _, _, _, _, _, _, _, _, _, _, _, _, _, rfl, (List.length_replicate (n := 16) (a := (0 : UInt8))), (Go.Au.root_len r29.1), (r85.mono (hl89.trans hl122)), (r86.mono (hl89.trans hl122)), r124, (r117.mono hl122), ⟨by omega, by omega⟩, ⟨by omega, by omega⟩, ⟨by omega, by omega⟩, ⟨by omega, by omega⟩, ⟨by omega, by omega⟩, ⟨by omega, by omega⟩, ⟨by omega, by omega⟩, Nat.le_of_eq (Go.Au.sign_len _ _ _ _), by rw [Go.Au.beside_len, Go.Au.lg_mleaves]; omega, by rw [Go.Au.beside_len]; exact Go.Au.lg_le (m := 5) (by rw [Go.Au.leavesH_len]; show _ ≤ 32; omega), by omega⟩
   refine T_litS (valsC [gV [[.int .i64 (i : Int)], [.int .i64 3], [.int .i64 ((k : Nat) : Int)], [.int .i64 ((n : Nat) : Int)], [.int .i64 ((l.length : Nat) : Int)], (List.replicate 16 0).map bV, (Go.Au.root (Go.Au.leavesH D D.length)).map bV, [.int .i64 h], [.int .i64 leaf], [.slice a57 67 c58], [.slice a59 (Go.Au.lg (Go.Au.mleaves seed h.toNat).length) c60], [.slice a100 (Go.Au.lg (Go.Au.leavesH D D.length).length) c101], [.slice a115 (D.getD i []).length c116]]]) rfl rfl rfl rfl rfl rfl rfl rfl rfl rfl rfl rfl rfl (one_v (gV_size (L := [[.int .i64 (i : Int)], [.int .i64 3], [.int .i64 ((k : Nat) : Int)], [.int .i64 ((n : Nat) : Int)], [.int .i64 ((l.length : Nat) : Int)], (List.replicate 16 0).map bV, (Go.Au.root (Go.Au.leavesH D D.length)).map bV, [.int .i64 h], [.int .i64 leaf], [.slice a57 67 c58], [.slice a59 (Go.Au.lg (Go.Au.mleaves seed h.toNat).length) c60], [.slice a100 (Go.Au.lg (Go.Au.leavesH D D.length).length) c101], [.slice a115 (D.getD i []).length c116]]) (shP (List.length_replicate (n := 16) (a := (0 : UInt8))) (Go.Au.root_len r29.1)) rfl)) rfl fun a125 w126 hB127 ho128 => ?_
   have S130 := S120.own hB127 ho128
   refine ⟨((hl122).trans S130.le), ?_⟩
   refine T_appendS 1 (i + 1) (valsC (vs ++ [gV [[.int .i64 (i : Int)], [.int .i64 3], [.int .i64 ((k : Nat) : Int)], [.int .i64 ((n : Nat) : Int)], [.int .i64 ((l.length : Nat) : Int)], (List.replicate 16 0).map bV, (Go.Au.root (Go.Au.leavesH D D.length)).map bV, [.int .i64 h], [.int .i64 leaf], [.slice a57 67 c58], [.slice a59 (Go.Au.lg (Go.Au.mleaves seed h.toNat).length) c60], [.slice a100 (Go.Au.lg (Go.Au.leavesH D D.length).length) c101], [.slice a115 (D.getD i []).length c116]]])) S130 (fun _ h => (hl122).trans h) rfl rfl rfl rfl rfl rfl rfl rfl rfl rfl rfl rfl rfl rfl (S130.rd 0 rfl) (PcAll.one1 rs129).one (by first | rfl | (simp; done) | (simp; omega) | omega) (valsC_append _ _).symm (by unfold maxLen; omega) (by show _ * 200 ≤ _; omega) fun a131 c132 w133 hc134 S135 => ?_
   have rs136 := PcAll.append (rs93.mono hl122) (PcAll.one1 rs129)
   refine Pv ?_
   refine T_nil ?_
   refine W_region ?_
   refine Ar ?_
   refine Pv ?_
   refine T_nil ?_
   have S137 := S135.drop 0
   exact ⟨n - (i + 1), [(13, .pointer (some ⟨b4, 0, none⟩)), (14, .slice a9 n c10), (15, .slice a18 D.length c19), (16, .pointer (some ⟨b69, 0, none⟩)), (17, .slice a131 (i + 1) c132), (40, .int .i64 ((n : Nat) : Int)), (41, .int .i64 ((i + 1 : Nat) : Int))], by omega, ⟨rfl, rfl, rfl, rfl, rfl, (congrArg (fun z => some (Value.int .i64 z)) (by omega)), (congrArg (fun z => some (Value.int .i64 z)) (by omega)), trivial⟩, i + 1, (vs ++ [gV [[.int .i64 (i : Int)], [.int .i64 3], [.int .i64 ((k : Nat) : Int)], [.int .i64 ((n : Nat) : Int)], [.int .i64 ((l.length : Nat) : Int)], (List.replicate 16 0).map bV, (Go.Au.root (Go.Au.leavesH D D.length)).map bV, [.int .i64 h], [.int .i64 leaf], [.slice a57 67 c58], [.slice a59 (Go.Au.lg (Go.Au.mleaves seed h.toNat).length) c60], [.slice a100 (Go.Au.lg (Go.Au.leavesH D D.length).length) c101], [.slice a115 (D.getD i []).length c116]]]), a131, c132, G121, rfl, (by omega), (by rw [List.length_append, hvl]; rfl), rfl, (hl89.trans hl122), S137, rs136, hc134⟩
  refine W_exit ?_
  refine Wr ?_
  iterate 2 refine Pv ?_
  refine T_nil ?_
  refine W_ret ?_
  refine ⟨_, ⟨_, _, rfl, rfl, rfl⟩, ?_⟩
  obtain ⟨G139, hl140, S138, r141⟩ := S95.stillRow 0 rfl
  have r142 := RdPc.mk r141 (rs93.mono hl140)
  obtain rfl : n = i := by omega
  exact ⟨_, _, vs, rfl, (r142).mono S138.fin, hvl, S138.below⟩
 refine W_seq ?_
 obtain ⟨G144, hl145, S143, r146⟩ := S35.stillBlk 1 rfl
 obtain ⟨G148, hl149, S147, r150⟩ := S143.stillBlk 0 rfl
 refine W_tree (planF Tryz.prog G148 [33, 36]) (.step 0 (.step 1 (.step 2 (.step 3 (.fork 4 6 (.fork 5 6 (.step 6 (.step 7 .done)) (.step 5 (.step 7 .done))) (.step 4 (.step 5 (.step 7 .done)))))))) rfl (by kernel_rfl) S147.le ?_
 have S151 := S147.drew
 refine TT_step rfl ?_
 refine T_loadGAP _ (fun _ h => h) (still_cells (hl149 _ _ r146)) rfl rfl rfl rfl rfl rfl rfl rfl (hVs hs) ?_
 iterate 2 (refine T_nil ?_; refine TT_step rfl ?_; refine Pv ?_)
 refine T_nil ?_
 refine TT_step rfl ?_
 refine T_loadGAP _ (fun _ h => h) (still_cells r150) rfl rfl rfl rfl rfl rfl rfl rfl (qV_sz (q_len (List.length_replicate (n := 16) (a := (0 : UInt8))) (Go.Au.root_len r29.1) rfl)) ?_
 refine T_nil ?_
 refine TT_fork rfl rfl ?_ ?_
 ·refine Cs g_aumbry_aumbryref13_PackVersion ((packVR_ok S151.le (3 : Int) ((k : Nat) : Int) ((n : Nat) : Int) ((l.length : Nat) : Int) (s := (List.replicate 16 0)) (t := Go.Au.root (Go.Au.leavesH D D.length)) (List.length_replicate (n := 16) (a := (0 : UInt8))) (Go.Au.root_len r29.1) (by omega) (by omega) (by omega) (by omega)).mono ?_)
  rintro e w157 ⟨a152, c153, hc154, rfl, ho155, hB156⟩
  have hl158 := Go.Au.packV_len (3 : Int) ((k : Nat) : Int) ((n : Nat) : Int) ((l.length : Nat) : Int) (s := (List.replicate 16 0)) (t := Go.Au.root (Go.Au.leavesH D D.length)) (by have := (List.length_replicate (n := 16) (a := (0 : UInt8))); omega) (by have := (Go.Au.root_len r29.1); omega)
  have S159 := S151.own hB156 ho155
  refine ⟨_, rfl, (((Hp.le.refl _)).trans S159.le), ?_⟩
  refine T_nil ?_
  refine TT_fork rfl rfl ?_ ?_
  ·obtain ⟨G161, hl162, S160, r163⟩ := S159.stillRow 0 rfl
   refine Cs g_aumbry_aumbryref07_Sign ((mssSignR_ok S160.le h leaf hs r163 (by omega) hr (by omega)).mono ?_)
   rintro e w171 ⟨a164, c165, a166, c167, rfl, r168, r169, hB170⟩
   obtain ⟨G173, eG175⟩ : ∃ G, G = F.ext G161 w157.heap.size w171 := ⟨_, rfl⟩
   obtain ⟨hl174, S172⟩ := S160.ext hB170
   rw [← eG175] at hl174 S172 r168 r169
   refine ⟨_, rfl, (((hl162.trans hl174)).trans S172.le), ?_⟩
   refine T_nil ?_
   refine TT_step rfl ?_
   refine T_allocS S172 (fun _ h => ((hl162.trans hl174)).trans h) rfl rfl rfl rfl rfl rfl rfl fun b176 w177 S178 => ?_
   refine T_nil ?_
   refine TT_step rfl ?_
   refine T_storeFS 0 S178 (fun _ h => ((hl162.trans hl174)).trans h) rfl rfl rfl rfl rfl rfl rfl rfl rfl (by first | rfl | simp [hVs, *]) (by first | rfl | simp [hVs, *]) (one_all rfl) fun w179 S180 => ?_
   refine T_nil ?_
   refine TT_done ?_
   obtain ⟨G182, hl183, S181, r184⟩ := S180.stillBlk 0 rfl
   exact Ws (J82 _ _ ⟨_, _, _, _, _, G182, rfl, (hl145.trans (hl149.trans (hl162.trans (hl174.trans hl183)))), S181, (hl183 _ _ (hl174 _ _ (hl162 _ _ r150))), r184, (r168.mono hl183), (r169.mono hl183)⟩) ⟨rfl, rfl, rfl, rfl, trivial⟩
  refine T_allocS S159 (fun _ h => ((Hp.le.refl _)).trans h) rfl rfl rfl rfl rfl rfl rfl fun b185 w186 S187 => ?_
  refine T_nil ?_
  refine TT_step rfl ?_
  obtain ⟨G189, hl190, S188, r191⟩ := S187.stillRow 1 rfl
  refine Cs g_aumbry_aumbryref07_Sign ((mssSignR_ok S188.le h leaf hs r191 (by omega) hr (by omega)).mono ?_)
  rintro e w199 ⟨a192, c193, a194, c195, rfl, r196, r197, hB198⟩
  obtain ⟨G201, eG203⟩ : ∃ G, G = F.ext G189 w186.heap.size w199 := ⟨_, rfl⟩
  obtain ⟨hl202, S200⟩ := S188.ext hB198
  rw [← eG203] at hl202 S200 r196 r197
  refine ⟨_, rfl, (((hl190.trans hl202)).trans S200.le), ?_⟩
  refine T_nil ?_
  refine TT_step rfl ?_
  refine T_storeFS 0 S200 (fun _ h => ((hl190.trans hl202)).trans h) rfl rfl rfl rfl rfl rfl rfl rfl rfl (by first | rfl | simp [hVs, *]) (by first | rfl | simp [hVs, *]) (one_all rfl) fun w204 S205 => ?_
  refine T_nil ?_
  refine TT_done ?_
  obtain ⟨G207, hl208, S206, r209⟩ := S205.stillBlk 0 rfl
  exact Ws (J82 _ _ ⟨_, _, _, _, _, G207, rfl, (hl145.trans (hl149.trans (hl190.trans (hl202.trans hl208)))), S206, (hl208 _ _ (hl202 _ _ (hl190 _ _ r150))), r209, (r196.mono hl208), (r197.mono hl208)⟩) ⟨rfl, rfl, rfl, rfl, trivial⟩
 refine T_allocS S151 (fun _ h => ((Hp.le.refl _)).trans h) rfl rfl rfl rfl rfl rfl rfl fun b210 w211 S212 => ?_
 refine T_nil ?_
 refine TT_step rfl ?_
 refine Cs g_aumbry_aumbryref13_PackVersion ((packVR_ok S212.le (3 : Int) ((k : Nat) : Int) ((n : Nat) : Int) ((l.length : Nat) : Int) (s := (List.replicate 16 0)) (t := Go.Au.root (Go.Au.leavesH D D.length)) (List.length_replicate (n := 16) (a := (0 : UInt8))) (Go.Au.root_len r29.1) (by omega) (by omega) (by omega) (by omega)).mono ?_)
 rintro e w218 ⟨a213, c214, hc215, rfl, ho216, hB217⟩
 have hl219 := Go.Au.packV_len (3 : Int) ((k : Nat) : Int) ((n : Nat) : Int) ((l.length : Nat) : Int) (s := (List.replicate 16 0)) (t := Go.Au.root (Go.Au.leavesH D D.length)) (by have := (List.length_replicate (n := 16) (a := (0 : UInt8))); omega) (by have := (Go.Au.root_len r29.1); omega)
 have S220 := S212.own hB217 ho216
 refine ⟨_, rfl, (((Hp.le.refl _)).trans S220.le), ?_⟩
 refine T_nil ?_
 refine TT_step rfl ?_
 obtain ⟨G222, hl223, S221, r224⟩ := S220.stillRow 0 rfl
 refine Cs g_aumbry_aumbryref07_Sign ((mssSignR_ok S221.le h leaf hs r224 (by omega) hr (by omega)).mono ?_)
 rintro e w232 ⟨a225, c226, a227, c228, rfl, r229, r230, hB231⟩
 obtain ⟨G234, eG236⟩ : ∃ G, G = F.ext G222 w218.heap.size w232 := ⟨_, rfl⟩
 obtain ⟨hl235, S233⟩ := S221.ext hB231
 rw [← eG236] at hl235 S233 r229 r230
 refine ⟨_, rfl, (((hl223.trans hl235)).trans S233.le), ?_⟩
 refine T_nil ?_
 refine TT_step rfl ?_
 refine T_storeFS 0 S233 (fun _ h => ((hl223.trans hl235)).trans h) rfl rfl rfl rfl rfl rfl rfl rfl rfl (by first | rfl | simp [hVs, *]) (by first | rfl | simp [hVs, *]) (one_all rfl) fun w237 S238 => ?_
 refine T_nil ?_
 refine TT_done ?_
 obtain ⟨G240, hl241, S239, r242⟩ := S238.stillBlk 0 rfl
 exact Ws (J82 _ _ ⟨_, _, _, _, _, G240, rfl, (hl145.trans (hl149.trans (hl223.trans (hl235.trans hl241)))), S239, (hl241 _ _ (hl235 _ _ (hl223 _ _ r150))), r242, (r229.mono hl241), (r230.mono hl241)⟩) ⟨rfl, rfl, rfl, rfl, trivial⟩


set_option maxHeartbeats 2000000 in
theorem layoutSigned_ok {H : Hp} {w : World} (hH : H.le (hw w)) (hT : Tabs H) {seed : List UInt8} (hs : seed.length = 16) (h0 leaf0 : Int) {l : List UInt8} {aa3 : Option Addr} {nn3 cc3 : Nat} (hv : Rd H (.slice aa3 nn3 cc3) nn3 1 (l.map bV)) (k0 n0 i0 w0 at0 : Int) (hat : -9223372036854775808 ≤ at0 ∧ at0 ≤ 9223372036854775807) :
  Calls Tryz.prog 5 #[hV seed, .int .i64 h0, .int .i64 leaf0, .slice aa3 nn3 cc3, .int .i64 k0, .int .i64 n0, .int .i64 i0, .int .i64 w0, .int .i64 at0] w fun e w' => e = .returned (.bool true) ∧ Below w.heap.size w w' := by
 obtain rfl : nn3 = l.length := hv.lenB
 have hvcap : l.length ≤ cc3 := hv.capOf
 obtain ⟨h, hh⟩ : ∃ h : Int, h0 % 2 = h := ⟨_, rfl⟩
 obtain ⟨n, hn⟩ : ∃ n : Nat, 1 + n0 % 4 = (n : Int) := ⟨(1 + n0 % 4).toNat, by omega⟩
 have hn4 : 1 ≤ n ∧ n ≤ 4 := by omega
 have hk1 := Int.emod_nonneg k0 (show ((n : Nat) : Int) ≠ 0 by omega)
 have hk2 := Int.emod_lt_of_pos k0 (show 0 < ((n : Nat) : Int) by omega)
 obtain ⟨k, hk⟩ : ∃ k : Nat, 1 + k0 % ((n : Nat) : Int) = (k : Int) := ⟨(1 + k0 % ((n : Nat) : Int)).toNat, by omega⟩
 have hkn : 1 ≤ k ∧ k ≤ n := by omega
 have hm : 0 ≤ h ∧ h ≤ 4 := by omega
 have hp16 := Go.Au.pow16 (h := h) (by omega) (by omega)
 have hpp : 0 < 2 ^ h.toNat := Nat.pow_pos (by decide)
 have hlf1 := Int.emod_nonneg leaf0 (show ((2 ^ h.toNat : Nat) : Int) ≠ 0 by omega)
 have hlf2 := Int.emod_lt_of_pos leaf0 (show 0 < ((2 ^ h.toNat : Nat) : Int) by omega)
 obtain ⟨leaf, hlf⟩ : ∃ z : Int, leaf0 % ((2 ^ h.toNat : Nat) : Int) = z := ⟨_, rfl⟩
 have hr : 0 ≤ leaf ∧ leaf < ((2 ^ h.toNat : Nat) : Int) := by rw [← hlf]; exact ⟨hlf1, hlf2⟩
 have hi1 := Int.emod_nonneg i0 (show ((n : Nat) : Int) ≠ 0 by omega)
 have hi2 := Int.emod_lt_of_pos i0 (show 0 < ((n : Nat) : Int) by omega)
 obtain ⟨i, hi⟩ : ∃ i : Nat, i0 % ((n : Nat) : Int) = (i : Int) := ⟨(i0 % ((n : Nat) : Int)).toNat, by omega⟩
 have hl60 : (l.take 60).length ≤ 60 := List.length_take_le _ _
 refine enter9 _ Tryz.func5 rfl Tryz.ntmps5 Tryz.results5 rfl ?_
 have S0 := St.start w hH
 refine Wr ?_
 refine T_boxS S0 (fun _ _ => trivial) rfl rfl rfl rfl rfl rfl fun b81 w82 S83 => ?_
 refine Pv ?_
 refine T_nil ?_
 refine Wr ?_
 refine Pv ?_
 refine Cs g_aumbry_aumbrykeep_Within ((withinN_ok S83.le h0 (2 : Int) (by omega)).mono ?_)
 rintro e w85 ⟨rfl, hB84⟩
 have S86 := S83.call hB84
 refine ⟨_, rfl, trivial, ?_⟩
 refine T_re (v' := .int .i64 h) (congrArg (Value.int .i64) hh) ?_
 refine Pv ?_
 refine T_nil ?_
 refine Wr ?_
 refine Pv ?_
 refine Cs g_aumbry_aumbrykeep_Within ((withinN_ok S86.le n0 (4 : Int) (by omega)).mono ?_)
 rintro e w88 ⟨rfl, hB87⟩
 have S89 := S86.call hB87
 refine ⟨_, rfl, trivial, ?_⟩
 refine Ar ?_
 refine T_re (v' := .int .i64 ((n : Nat) : Int)) (congrArg (Value.int .i64) hn) ?_
 refine Pv ?_
 refine T_nil ?_
 refine Wr ?_
 iterate 2 refine Pv ?_
 refine Cs g_aumbry_aumbrykeep_Within ((withinN_ok S89.le k0 ((n : Nat) : Int) (by omega)).mono ?_)
 rintro e w91 ⟨rfl, hB90⟩
 have S92 := S89.call hB90
 refine ⟨_, rfl, trivial, ?_⟩
 refine Ar ?_
 refine T_re (v' := .int .i64 ((k : Nat) : Int)) (congrArg (Value.int .i64) hk) ?_
 refine Pv ?_
 refine T_nil ?_
 refine W_seq ?_
 obtain ⟨G94, hl95, S93, r96⟩ := S92.stillBlk 0 rfl
 refine W_plan (planF Tryz.prog G94 [31]) rfl (by kernel_rfl) S93.le ?_
 have S97 := S93.drew
 refine T_loadGAP _ (fun _ h => h) (still_cells r96) rfl rfl rfl rfl rfl rfl rfl rfl (hVs hs) ?_
 iterate 4 refine Pv ?_
 refine T_re (v' := .int .u64 h) (congrArg (Value.int .u64) (by rw [IntKind.wrap_u64]; omega)) ?_
 refine T_shl rfl rfl rfl rfl rfl rfl (by omega) ?_
 refine T_re (v' := .int .i64 ((2 ^ h.toNat : Nat) : Int)) (congrArg (Value.int .i64) (shlI (by omega) (by omega))) ?_
 refine Cs g_aumbry_aumbrykeep_Within ((withinN_ok S97.le leaf0 ((2 ^ h.toNat : Nat) : Int) (by omega)).mono ?_)
 rintro e w99 ⟨rfl, hB98⟩
 have S100 := S97.call hB98
 refine ⟨_, rfl, (((Hp.le.refl _)).trans S100.le), ?_⟩
 refine T_re (v' := .int .i64 leaf) (congrArg (Value.int .i64) hlf) ?_
 refine Pv ?_
 refine Cs g_aumbry_aumbrykeep_Cut_byte ((cutB_ok S100.le (hv.mono hl95) 60).mono ?_)
 rintro e w106 ⟨a101, c102, hc103, rfl, hr104, hB105⟩
 have S107 := S100.call hB105
 refine ⟨_, rfl, (((Hp.le.refl _)).trans S107.le), ?_⟩
 iterate 2 refine Pv ?_
 refine Cs g_aumbry_aumbrylaw14_pieces ((pieces_ok S107.le hs h leaf (by omega) hr hr104 k n (by omega) (by omega) (by omega)).mono ?_)
 rintro e w114 ⟨a108, c109, vs110, rfl, r111, hl112, hB113⟩
 obtain ⟨G116, eG118⟩ : ∃ G, G = F.ext G94 w106.heap.size w114 := ⟨_, rfl⟩
 obtain ⟨hl117, S115⟩ := S107.ext hB113
 rw [← eG118] at hl117 S115 r111
 refine ⟨_, rfl, ((hl117).trans S115.le), ?_⟩
 refine Pv ?_
 refine T_nil ?_
 refine Wr ?_
 iterate 3 refine Pv ?_
 refine Cs g_aumbry_aumbrykeep_Within ((withinN_ok S115.le i0 ((n : Nat) : Int) (by omega)).mono ?_)
 rintro e w120 ⟨rfl, hB119⟩
 have S121 := S115.call hB119
 refine ⟨_, rfl, trivial, ?_⟩
 refine T_re (v' := .int .i64 ((i : Nat) : Int)) (congrArg (Value.int .i64) hi) ?_
 refine T_idxR i r111.1 rfl rfl rfl rfl rfl rfl rfl rfl rfl (by omega) (by omega) fun b122 o123 hc124 => ?_
 obtain ⟨v125, hv126, hp127⟩ := RdPc.at r111 i (by omega)
 obtain ⟨pn128, va129, vb130, vc131, vd132, vs133, vr134, sh135, sl136, X137, Y138, Z139, B140, a141, a142, a143, a144, n145, n146, n147, n148, c149, c150, c151, c152, rfl, hl153, hl154, r155, r156, r157, r158, hb159⟩ := hp127
 obtain rfl : n145 = X137.length := r155.len
 obtain rfl : n146 = Y138.length := r156.len
 obtain rfl : n147 = Z139.length := r157.len
 obtain rfl : n148 = B140.length := r158.lenB
 have hc160 := fun j u hu => hc124 j u (valsC_at (RdPc.sz r111) i _ hv126 j u hu)
 refine T_loadGA _ S121 hc160 rfl rfl rfl rfl rfl rfl rfl rfl (gV_size (L := [[.int .i64 pn128], [.int .i64 va129], [.int .i64 vb130], [.int .i64 vc131], [.int .i64 vd132], vs133.map bV, vr134.map bV, [.int .i64 sh135], [.int .i64 sl136], [.slice a141 X137.length c149], [.slice a142 Y138.length c150], [.slice a143 Z139.length c151], [.slice a144 B140.length c152]]) (shP hl153 hl154) rfl) ?_
 refine T_allocS S121 (fun _ _ => trivial) rfl rfl rfl rfl rfl rfl rfl fun b161 w162 S163 => ?_
 refine T_storeFS 0 S163 (fun _ _ => trivial) rfl rfl rfl rfl rfl rfl rfl rfl rfl (gV_size (L := [[.int .i64 pn128], [.int .i64 va129], [.int .i64 vb130], [.int .i64 vc131], [.int .i64 vd132], vs133.map bV, vr134.map bV, [.int .i64 sh135], [.int .i64 sl136], [.slice a141 X137.length c149], [.slice a142 Y138.length c150], [.slice a143 Z139.length c151], [.slice a144 B140.length c152]]) (shP hl153 hl154) rfl) (gV_size (L := [[.int .i64 pn128], [.int .i64 va129], [.int .i64 vb130], [.int .i64 vc131], [.int .i64 vd132], vs133.map bV, vr134.map bV, [.int .i64 sh135], [.int .i64 sl136], [.slice a141 X137.length c149], [.slice a142 Y138.length c150], [.slice a143 Z139.length c151], [.slice a144 B140.length c152]]) (shP hl153 hl154) rfl) (gV_one (OneL.one rfl (OneL.one rfl (OneL.one rfl (OneL.one rfl (OneL.one rfl (OneL.arr (OneL.arr (OneL.one rfl (OneL.one rfl (OneL.one rfl (OneL.one rfl (OneL.one rfl (OneL.one rfl OneL.nil)))))))))))))) fun w164 S165 => ?_
 refine T_nil ?_
 refine Wr ?_
 refine T_loadGA _ S165 (still_cells (hl117 _ _ r96)) rfl rfl rfl rfl rfl rfl rfl rfl (hVs hs) ?_
 refine Pv ?_
 refine Cs g_aumbry_aumbryref07_Print ((mssPrintR_ok S165.le h hs (by omega)).mono ?_)
 rintro e w167 ⟨rfl, hB166⟩
 have S168 := S165.call hB166
 refine ⟨_, rfl, trivial, ?_⟩
 refine T_allocS S168 (fun _ _ => trivial) rfl rfl rfl rfl rfl rfl rfl fun b169 w170 S171 => ?_
 refine T_storeFS 0 S171 (fun _ _ => trivial) rfl rfl rfl rfl rfl rfl rfl rfl rfl (hVs (Go.Au.mprint_len _ _)) (hVs (Go.Au.mprint_len _ _)) (one_hA _) fun w172 S173 => ?_
 refine T_nil ?_
 refine W_j2 (fun ρ w' => ∃ (qn qa qb qc qd : Int) (qs qr : List UInt8) (qh ql : Int) (QX QY QZ : List (List UInt8)) (QB : List UInt8) (e1 e2 e3 e4 : Option Addr) (g1 g2 g3 g4 q4 : Nat) (G174 : Hp), ρ = [(20, .pointer (some ⟨b161, 0, none⟩)), (21, .pointer (some ⟨b169, 0, none⟩))] ∧ G116.le G174 ∧ St w H G174 [.blk b169 (hV (Go.Au.mprint seed h) : Value).cells 27, .blk b161 (gV [[.int .i64 qn], [.int .i64 qa], [.int .i64 qb], [.int .i64 qc], [.int .i64 qd], qs.map bV, qr.map bV, [.int .i64 qh], [.int .i64 ql], [.slice e1 QX.length g1], [.slice e2 QY.length g2], [.slice e3 QZ.length g3], [.slice e4 q4 g4]] : Value).cells 58] w' ∧ qs.length = 16 ∧ qr.length = 32 ∧ RdH G174 (.slice e1 QX.length g1) 32 QX ∧ RdH G174 (.slice e2 QY.length g2) 32 QY ∧ RdH G174 (.slice e3 QZ.length g3) 32 QZ ∧ Rd G174 (.slice e4 q4 g4) q4 1 (QB.map bV) ∧ qa ≤ 9223372036854775807 ∧ qb ≤ 9223372036854775807 ∧ qc ≤ 9223372036854775807 ∧ qd ≤ 9223372036854775807 ∧ QX.length ≤ 70 ∧ QY.length ≤ 6 ∧ QZ.length ≤ 6 ∧ QB.length ≤ 100) ?_ (fun J178 => ?_)
 ·rintro ρ w177 ⟨qn, qa, qb, qc, qd, qs, qr, qh, ql, QX, QY, QZ, QB, e1, e2, e3, e4, g1, g2, g3, g4, q4, G174, rfl, hl175, S176, hqs, hqr, qf1, qf2, qf3, qf4, hqB⟩
  obtain rfl : q4 = QB.length := qf4.lenB
  refine W_seq ?_
  obtain ⟨G180, hl181, S179, r182⟩ := S176.stillBlk 0 rfl
  obtain ⟨G184, hl185, S183, r186⟩ := S179.stillBlk 0 rfl
  refine W_plan (planF Tryz.prog G184 [137, 138]) rfl (by kernel_rfl) S183.le ?_
  have S187 := S183.drew
  refine T_loadGA _ S187 (still_cells (hl185 _ _ r182)) rfl rfl rfl rfl rfl rfl rfl rfl (hVs (Go.Au.mprint_len _ _)) ?_
  refine T_loadGA _ S187 (still_cells r186) rfl rfl rfl rfl rfl rfl rfl rfl (gV_size (L := [[.int .i64 qn], [.int .i64 qa], [.int .i64 qb], [.int .i64 qc], [.int .i64 qd], qs.map bV, qr.map bV, [.int .i64 qh], [.int .i64 ql], [.slice e1 QX.length g1], [.slice e2 QY.length g2], [.slice e3 QZ.length g3], [.slice e4 QB.length g4]]) (shP hqs hqr) rfl) ?_
  refine Cs g_aumbry_layout_RightPiece ((rightP_ok S187.le (hT.mono (hl95.trans (hl117.trans (hl175.trans (hl181.trans hl185))))) (Go.Au.mprint_len _ _) qn qa qb qc qd hqs hqr qh ql (qf1.mono (hl181.trans hl185)) (qf2.mono (hl181.trans hl185)) (qf3.mono (hl181.trans hl185)) (qf4.mono (hl181.trans hl185)) (by omega) (by omega) (by omega) (by omega) (by omega) (by omega) (by omega) (by omega)).mono ?_)
  rintro e w189 ⟨rfl, hB188⟩
  have S190 := S187.call hB188
  refine ⟨_, rfl, (((Hp.le.refl _)).trans S190.le), ?_⟩
  refine T_loadGAP _ (fun _ h => h) (still_cells (hl185 _ _ r182)) rfl rfl rfl rfl rfl rfl rfl rfl (hVs (Go.Au.mprint_len _ _)) ?_
  refine T_loadGAP _ (fun _ h => h) (still_cells r186) rfl rfl rfl rfl rfl rfl rfl rfl (gV_size (L := [[.int .i64 qn], [.int .i64 qa], [.int .i64 qb], [.int .i64 qc], [.int .i64 qd], qs.map bV, qr.map bV, [.int .i64 qh], [.int .i64 ql], [.slice e1 QX.length g1], [.slice e2 QY.length g2], [.slice e3 QZ.length g3], [.slice e4 QB.length g4]]) (shP hqs hqr) rfl) ?_
  refine Cs g_aumbry_aumbryref13_RightPiece ((rightPR_ok S190.le (Go.Au.mprint_len _ _) qn qa qb qc qd hqs hqr qh ql (qf1.mono (hl181.trans hl185)) (qf2.mono (hl181.trans hl185)) (qf3.mono (hl181.trans hl185)) (qf4.mono (hl181.trans hl185)) (by omega) (by omega) (by omega) (by omega) (by omega) (by omega) (by omega) (by omega)).mono ?_)
  rintro e w192 ⟨rfl, hB191⟩
  have S193 := S190.call hB191
  refine ⟨_, rfl, (((Hp.le.refl _)).trans S193.le), ?_⟩
  refine T_beq rfl rfl rfl rfl rfl rfl rfl ?_
  refine Pv ?_
  refine T_bool 141 true rfl (decide_eq_true (by first | rfl | omega)) ?_
  refine Ys ?_
  refine Cs g_aumbry_aumbrylaw14_wakes ((wakes_ok S193.le (hT.mono (hl95.trans (hl117.trans (hl175.trans (hl181.trans hl185)))))).mono ?_)
  rintro e w195 ⟨rfl, hB194⟩
  have S196 := S193.call hB194
  refine ⟨_, rfl, (((Hp.le.refl _)).trans S196.le), ?_⟩
  iterate 2 refine Pv ?_
  refine T_nil ?_
  refine W_ret ?_
  refine ⟨_, ⟨_, _, rfl, rfl, rfl⟩, ?_⟩
  exact ⟨rfl, S196.below⟩
 refine W_j1 (fun ρ w' => ∃ (a198 : Option Addr) (c199 : Nat) (a205 : Option Addr) (c206 : Nat) (G223 : Hp), ρ = [(7, .int .i64 w0), (8, .int .i64 at0), (21, .pointer (some ⟨b169, 0, none⟩)), (20, .pointer (some ⟨b161, 0, none⟩))] ∧ G116.le G223 ∧ St w H G223 [.blk b169 (hV (Go.Au.mprint seed h) : Value).cells 27, .blk b161 (gV [[.int .i64 pn128], [.int .i64 va129], [.int .i64 vb130], [.int .i64 vc131], [.int .i64 vd132], vs133.map bV, vr134.map bV, [.int .i64 sh135], [.int .i64 sl136], [.slice a141 X137.length c149], [.slice a142 Y138.length c150], [.slice a198 Z139.length c199], [.slice a205 B140.length c206]] : Value).cells 58, .row 27 32 (.slice a198 Z139.length c199) Z139.length (hcells Z139), .row 5 1 (.slice a205 B140.length c206) B140.length (B140.map bV)] w' ∧ Z139.length ≤ c199 ∧ B140.length ≤ c206) ?_ (fun J227 => ?_)
 ·rintro ρ w226 ⟨a198, c199, a205, c206, G223, rfl, hl224, S225, hc228, hc229⟩
  refine W_seq ?_
  refine Wr ?_
  refine Pv ?_
  refine Cs g_aumbry_aumbrykeep_Within ((withinN_ok S225.le w0 (8 : Int) (by omega)).mono ?_)
  rintro e w231 ⟨rfl, hB230⟩
  have S232 := S225.call hB230
  refine ⟨_, rfl, trivial, ?_⟩
  refine T_nil ?_
  refine W_block ?_
  refine Wr ?_
  iterate 2 refine Pv ?_
  refine T_nil ?_
  refine W_cond_dec rfl (fun h233 => ?_) (fun h233 => ?_)
  ·refine W_region ?_
   refine Fl 0 ?_
   refine T_loadS 1 0 S232 rfl rfl rfl rfl rfl rfl rfl rfl rfl (gV_cell (shP hl153 hl154) 0 rfl rfl) ?_
   iterate 2 refine Pv ?_
   refine T_re (v' := .int .i64 (at0 % 2)) (congrArg (Value.int .i64) (andI1 hat)) ?_
   iterate 3 refine Ar ?_
   refine Fl 0 ?_
   refine T_store1S 1 0 S232 (fun _ _ => trivial) rfl rfl rfl rfl rfl rfl rfl rfl rfl rfl rfl rfl (Nat.lt_of_lt_of_eq (show 0 < 59 by decide) (gV_size (L := [[.int .i64 pn128], [.int .i64 va129], [.int .i64 vb130], [.int .i64 vc131], [.int .i64 vd132], vs133.map bV, vr134.map bV, [.int .i64 sh135], [.int .i64 sl136], [.slice a141 X137.length c149], [.slice a142 Y138.length c150], [.slice a198 Z139.length c199], [.slice a205 B140.length c206]]) (shP hl153 hl154) rfl).symm) fun w234 S235 => ?_
   have S236 := S235.re 1 rfl (show (gV [[.int .i64 pn128], [.int .i64 va129], [.int .i64 vb130], [.int .i64 vc131], [.int .i64 vd132], vs133.map bV, vr134.map bV, [.int .i64 sh135], [.int .i64 sl136], [.slice a141 X137.length c149], [.slice a142 Y138.length c150], [.slice a198 Z139.length c199], [.slice a205 B140.length c206]] : Value).cells.setIfInBounds 0 (.int .i64 (pn128 + ((1 : Int) - ((2 : Int) * (at0 % 2))))) = (gV [[.int .i64 (pn128 + ((1 : Int) - ((2 : Int) * (at0 % 2))))], [.int .i64 va129], [.int .i64 vb130], [.int .i64 vc131], [.int .i64 vd132], vs133.map bV, vr134.map bV, [.int .i64 sh135], [.int .i64 sl136], [.slice a141 X137.length c149], [.slice a142 Y138.length c150], [.slice a198 Z139.length c199], [.slice a205 B140.length c206]] : Value).cells from gV_set (shP hl153 hl154) 0 _ rfl rfl)
   refine T_nil ?_
   obtain ⟨G238, hl239, S237, r240⟩ := S236.stillRow 2 rfl
   have r241 := RdH.mk r157.1 (by decide) r240
   obtain ⟨G243, hl244, S242, r245⟩ := S237.stillRow 2 rfl
   have hBL : B140.length ≤ 100 := by first | omega | (rw [List.length_set]; omega) | (rw [List.length_append]; show _ + 1 ≤ _; omega)
   exact Ws (J178 _ _ ⟨_, _, _, _, _, _, _, _, _, _, _, _, _, _, _, _, _, _, _, _, _, _, G243, rfl, (hl224.trans (hl239.trans hl244)), S242, hl153, hl154, (r155.mono (hl224.trans (hl239.trans hl244))), (r156.mono (hl224.trans (hl239.trans hl244))), (r241.mono hl244), r245, by omega, by omega, by omega, by omega, by omega, by omega, by omega, hBL⟩) ⟨rfl, rfl, trivial⟩
  refine Wr ?_
  iterate 2 refine Pv ?_
  refine T_nil ?_
  refine W_cond_dec rfl (fun h246 => ?_) (fun h246 => ?_)
  ·refine W_region ?_
   refine Fl 1 ?_
   refine Fl 1 ?_
   refine T_loadS 1 1 S232 rfl rfl rfl rfl rfl rfl rfl rfl rfl (gV_cell (shP hl153 hl154) 1 rfl rfl) ?_
   refine Ar ?_
   refine Fl 1 ?_
   refine Fl 1 ?_
   refine T_store1S 1 1 S232 (fun _ _ => trivial) rfl rfl rfl rfl rfl rfl rfl rfl rfl rfl rfl rfl (Nat.lt_of_lt_of_eq (show 1 < 59 by decide) (gV_size (L := [[.int .i64 pn128], [.int .i64 va129], [.int .i64 vb130], [.int .i64 vc131], [.int .i64 vd132], vs133.map bV, vr134.map bV, [.int .i64 sh135], [.int .i64 sl136], [.slice a141 X137.length c149], [.slice a142 Y138.length c150], [.slice a198 Z139.length c199], [.slice a205 B140.length c206]]) (shP hl153 hl154) rfl).symm) fun w247 S248 => ?_
   have S249 := S248.re 1 rfl (show (gV [[.int .i64 pn128], [.int .i64 va129], [.int .i64 vb130], [.int .i64 vc131], [.int .i64 vd132], vs133.map bV, vr134.map bV, [.int .i64 sh135], [.int .i64 sl136], [.slice a141 X137.length c149], [.slice a142 Y138.length c150], [.slice a198 Z139.length c199], [.slice a205 B140.length c206]] : Value).cells.setIfInBounds 1 (.int .i64 (va129 + (1 : Int))) = (gV [[.int .i64 pn128], [.int .i64 (va129 + (1 : Int))], [.int .i64 vb130], [.int .i64 vc131], [.int .i64 vd132], vs133.map bV, vr134.map bV, [.int .i64 sh135], [.int .i64 sl136], [.slice a141 X137.length c149], [.slice a142 Y138.length c150], [.slice a198 Z139.length c199], [.slice a205 B140.length c206]] : Value).cells from gV_set (shP hl153 hl154) 1 _ rfl rfl)
   refine T_nil ?_
   obtain ⟨G251, hl252, S250, r253⟩ := S249.stillRow 2 rfl
   have r254 := RdH.mk r157.1 (by decide) r253
   obtain ⟨G256, hl257, S255, r258⟩ := S250.stillRow 2 rfl
   have hBL : B140.length ≤ 100 := by first | omega | (rw [List.length_set]; omega) | (rw [List.length_append]; show _ + 1 ≤ _; omega)
   exact Ws (J178 _ _ ⟨_, _, _, _, _, _, _, _, _, _, _, _, _, _, _, _, _, _, _, _, _, _, G256, rfl, (hl224.trans (hl252.trans hl257)), S255, hl153, hl154, (r155.mono (hl224.trans (hl252.trans hl257))), (r156.mono (hl224.trans (hl252.trans hl257))), (r254.mono hl257), r258, by omega, by omega, by omega, by omega, by omega, by omega, by omega, hBL⟩) ⟨rfl, rfl, trivial⟩
  refine Wr ?_
  iterate 2 refine Pv ?_
  refine T_nil ?_
  refine W_cond_dec rfl (fun h259 => ?_) (fun h259 => ?_)
  ·refine W_region ?_
   refine Fl 1 ?_
   refine Fl 21 ?_
   refine T_idxA1 rfl rfl rfl rfl rfl rfl rfl rfl rfl (by first | omega | decide) ?_
   refine T_loadS 1 (21 + 3) S232 rfl rfl rfl rfl rfl rfl rfl rfl (by first | rfl | omega) (gV_cellx (off := 21) (i := 3) (shP hl153 hl154) 6 flat1 rfl (by rw [hl154]; omega)) ?_
   refine Pv ?_
   refine T_re (v' := bV ((vr134.getD 3 0) ^^^ 1)) (congrArg (Value.int .u8) (xorU8 _ 1)) ?_
   refine Fl 1 ?_
   refine Fl 21 ?_
   refine T_idxA1 rfl rfl rfl rfl rfl rfl rfl rfl rfl (by first | omega | decide) ?_
   refine T_store1S 1 (21 + 3) S232 (fun _ _ => trivial) rfl rfl rfl rfl rfl rfl rfl rfl rfl rfl rfl (by first | rfl | omega) (Nat.lt_of_lt_of_eq (show (21 + 3) < 59 by omega) (gV_size (L := [[.int .i64 pn128], [.int .i64 va129], [.int .i64 vb130], [.int .i64 vc131], [.int .i64 vd132], vs133.map bV, vr134.map bV, [.int .i64 sh135], [.int .i64 sl136], [.slice a141 X137.length c149], [.slice a142 Y138.length c150], [.slice a198 Z139.length c199], [.slice a205 B140.length c206]]) (shP hl153 hl154) rfl).symm) fun w260 S261 => ?_
   have S262 := S261.re 1 rfl (show (gV [[.int .i64 pn128], [.int .i64 va129], [.int .i64 vb130], [.int .i64 vc131], [.int .i64 vd132], vs133.map bV, vr134.map bV, [.int .i64 sh135], [.int .i64 sl136], [.slice a141 X137.length c149], [.slice a142 Y138.length c150], [.slice a198 Z139.length c199], [.slice a205 B140.length c206]] : Value).cells.setIfInBounds (21 + 3) (bV ((vr134.getD 3 0) ^^^ 1)) = (gV [[.int .i64 pn128], [.int .i64 va129], [.int .i64 vb130], [.int .i64 vc131], [.int .i64 vd132], vs133.map bV, (vr134.set 3 ((vr134.getD 3 0) ^^^ 1)).map bV, [.int .i64 sh135], [.int .i64 sl136], [.slice a141 X137.length c149], [.slice a142 Y138.length c150], [.slice a198 Z139.length c199], [.slice a205 B140.length c206]] : Value).cells from gV_setx (off := 21) (i := 3) (shP hl153 hl154) 6 _ flat1 (by rw [hl154]; rfl) rfl (by rw [hl154]; omega))
   refine T_nil ?_
   obtain ⟨G264, hl265, S263, r266⟩ := S262.stillRow 2 rfl
   have r267 := RdH.mk r157.1 (by decide) r266
   obtain ⟨G269, hl270, S268, r271⟩ := S263.stillRow 2 rfl
   have hBL : B140.length ≤ 100 := by first | omega | (rw [List.length_set]; omega) | (rw [List.length_append]; show _ + 1 ≤ _; omega)
   exact Ws (J178 _ _ ⟨_, _, _, _, _, _, _, _, _, _, _, _, _, _, _, _, _, _, _, _, _, _, G269, rfl, (hl224.trans (hl265.trans hl270)), S268, hl153, (by rw [List.length_set]; exact hl154), (r155.mono (hl224.trans (hl265.trans hl270))), (r156.mono (hl224.trans (hl265.trans hl270))), (r267.mono hl270), r271, by omega, by omega, by omega, by omega, by omega, by omega, by omega, hBL⟩) ⟨rfl, rfl, trivial⟩
  refine Wr ?_
  iterate 2 refine Pv ?_
  refine T_nil ?_
  refine W_cond_dec rfl (fun h272 => ?_) (fun h272 => ?_)
  ·refine Wr ?_
   refine Fl 58 ?_
   refine T_loadS 1 58 S232 rfl rfl rfl rfl rfl rfl rfl rfl rfl (gV_cell (shP hl153 hl154) 12 rfl rfl) ?_
   iterate 2 refine Pv ?_
   refine T_nil ?_
   refine W_cond_dec rfl (fun h273 => ?_) (fun h273 => ?_)
   ·have hz1 := Int.emod_nonneg at0 (show ((B140.length : Nat) : Int) ≠ 0 by omega)
    have hz2 := Int.emod_lt_of_pos at0 (show 0 < ((B140.length : Nat) : Int) by omega)
    obtain ⟨z, hz⟩ : ∃ z : Nat, at0 % ((B140.length : Nat) : Int) = (z : Int) := ⟨(at0 % ((B140.length : Nat) : Int)).toNat, by omega⟩
    refine W_tree (plan Tryz.prog) (.step 0 (.step 2 (.step 3 (.step 4 (.step 5 (.fork 1 6 (.step 6 (.step 7 (.step 8 (.step 9 (.step 10 (.step 11 .done)))))) (.step 1 (.step 7 (.step 8 (.step 9 (.step 10 (.step 11 .done)))))))))))) rfl (by kernel_rfl) trivial ?_
    have S274 := S232.drew
    refine TT_step rfl ?_
    refine Fl 58 ?_
    refine T_nil ?_
    refine TT_step rfl ?_
    refine Pv ?_
    refine T_nil ?_
    refine TT_step rfl ?_
    refine Fl 58 ?_
    refine T_nil ?_
    refine TT_step rfl ?_
    refine T_loadS 1 58 S274 rfl rfl rfl rfl rfl rfl rfl rfl rfl (gV_cell (shP hl153 hl154) 12 rfl rfl) ?_
    refine T_nil ?_
    refine TT_step rfl ?_
    refine Pv ?_
    refine T_nil ?_
    refine TT_fork rfl rfl ?_ ?_
    ·refine T_loadS 1 58 S274 rfl rfl rfl rfl rfl rfl rfl rfl rfl (gV_cell (shP hl153 hl154) 12 rfl rfl) ?_
     refine T_nil ?_
     refine TT_step rfl ?_
     refine Cs g_aumbry_aumbrykeep_Within ((withinN_ok S274.le at0 ((B140.length : Nat) : Int) (by omega)).mono ?_)
     rintro e w276 ⟨rfl, hB275⟩
     have S277 := S274.call hB275
     refine ⟨_, rfl, trivial, ?_⟩
     refine T_re (v' := .int .i64 ((z : Nat) : Int)) (congrArg (Value.int .i64) hz) ?_
     refine T_nil ?_
     refine TT_step rfl ?_
     obtain ⟨g278, rfl⟩ := S277.rowAt 3 rfl (by omega)
     refine T_idxm (z * 1) rfl rfl rfl rfl rfl rfl rfl rfl (by omega) (by show 0 + Int.toNat _ * 1 = _; omega) ?_
     refine T_nil ?_
     refine TT_step rfl ?_
     refine T_load rfl rfl rfl rfl rfl rfl rfl (S277.rowCell 3 rfl (cellB_at (by omega))) ?_
     refine T_nil ?_
     refine TT_step rfl ?_
     refine Pv ?_
     refine T_re (v' := bV ((B140.getD z 0) ^^^ 4)) (congrArg (Value.int .u8) (xorU8 _ 4)) ?_
     refine T_nil ?_
     refine TT_step rfl ?_
     refine T_idxm (z * 1) rfl rfl rfl rfl rfl rfl rfl rfl (by omega) (by show 0 + Int.toNat _ * 1 = _; omega) ?_
     refine T_nil ?_
     refine TT_step rfl ?_
     refine T_storeRow 3 ((B140.set z ((B140.getD z 0) ^^^ 4)).map bV) S277 (fun _ _ => trivial) rfl rfl rfl rfl rfl rfl rfl rfl rfl (by show _ + 1 ≤ _ * 1; omega) (one_bV1 (b := (B140.getD z 0) ^^^ 4)) (set_bytes (l := B140) (q := z) (x := (B140.getD z 0) ^^^ 4) (by omega)) fun w279 S280 => ?_
     refine T_nil ?_
     refine TT_done ?_
     obtain ⟨G282, hl283, S281, r284⟩ := S280.stillRow 2 rfl
     have r285 := RdH.mk r157.1 (by decide) r284
     obtain ⟨G287, hl288, S286, r289⟩ := S281.stillRow 2 rfl
     have hBL : (B140.set z ((B140.getD z 0) ^^^ 4)).length ≤ 100 := by first | omega | (rw [List.length_set]; omega) | (rw [List.length_append]; show _ + 1 ≤ _; omega)
     exact Ws (J178 _ _ ⟨_, _, _, _, _, _, _, _, _, _, _, _, _, _, _, _, _, _, _, _, _, _, G287, rfl, (hl224.trans (hl283.trans hl288)), S286, hl153, hl154, (r155.mono (hl224.trans (hl283.trans hl288))), (r156.mono (hl224.trans (hl283.trans hl288))), (r285.mono hl288), r289, by omega, by omega, by omega, by omega, by omega, by omega, by omega, hBL⟩) ⟨rfl, rfl, trivial⟩
    refine Cs g_aumbry_aumbrykeep_Within ((withinN_ok S274.le at0 ((B140.length : Nat) : Int) (by omega)).mono ?_)
    rintro e w291 ⟨rfl, hB290⟩
    have S292 := S274.call hB290
    refine ⟨_, rfl, trivial, ?_⟩
    refine T_re (v' := .int .i64 ((z : Nat) : Int)) (congrArg (Value.int .i64) hz) ?_
    refine T_nil ?_
    refine TT_step rfl ?_
    refine T_loadS 1 58 S292 rfl rfl rfl rfl rfl rfl rfl rfl rfl (gV_cell (shP hl153 hl154) 12 rfl rfl) ?_
    refine T_nil ?_
    refine TT_step rfl ?_
    obtain ⟨g293, rfl⟩ := S292.rowAt 3 rfl (by omega)
    refine T_idxm (z * 1) rfl rfl rfl rfl rfl rfl rfl rfl (by omega) (by show 0 + Int.toNat _ * 1 = _; omega) ?_
    refine T_nil ?_
    refine TT_step rfl ?_
    refine T_load rfl rfl rfl rfl rfl rfl rfl (S292.rowCell 3 rfl (cellB_at (by omega))) ?_
    refine T_nil ?_
    refine TT_step rfl ?_
    refine Pv ?_
    refine T_re (v' := bV ((B140.getD z 0) ^^^ 4)) (congrArg (Value.int .u8) (xorU8 _ 4)) ?_
    refine T_nil ?_
    refine TT_step rfl ?_
    refine T_idxm (z * 1) rfl rfl rfl rfl rfl rfl rfl rfl (by omega) (by show 0 + Int.toNat _ * 1 = _; omega) ?_
    refine T_nil ?_
    refine TT_step rfl ?_
    refine T_storeRow 3 ((B140.set z ((B140.getD z 0) ^^^ 4)).map bV) S292 (fun _ _ => trivial) rfl rfl rfl rfl rfl rfl rfl rfl rfl (by show _ + 1 ≤ _ * 1; omega) (one_bV1 (b := (B140.getD z 0) ^^^ 4)) (set_bytes (l := B140) (q := z) (x := (B140.getD z 0) ^^^ 4) (by omega)) fun w294 S295 => ?_
    refine T_nil ?_
    refine TT_done ?_
    obtain ⟨G297, hl298, S296, r299⟩ := S295.stillRow 2 rfl
    have r300 := RdH.mk r157.1 (by decide) r299
    obtain ⟨G302, hl303, S301, r304⟩ := S296.stillRow 2 rfl
    have hBL : (B140.set z ((B140.getD z 0) ^^^ 4)).length ≤ 100 := by first | omega | (rw [List.length_set]; omega) | (rw [List.length_append]; show _ + 1 ≤ _; omega)
    exact Ws (J178 _ _ ⟨_, _, _, _, _, _, _, _, _, _, _, _, _, _, _, _, _, _, _, _, _, _, G302, rfl, (hl224.trans (hl298.trans hl303)), S301, hl153, hl154, (r155.mono (hl224.trans (hl298.trans hl303))), (r156.mono (hl224.trans (hl298.trans hl303))), (r300.mono hl303), r304, by omega, by omega, by omega, by omega, by omega, by omega, by omega, hBL⟩) ⟨rfl, rfl, trivial⟩
   refine W_skip ?_
   obtain ⟨G306, hl307, S305, r308⟩ := S232.stillRow 2 rfl
   have r309 := RdH.mk r157.1 (by decide) r308
   obtain ⟨G311, hl312, S310, r313⟩ := S305.stillRow 2 rfl
   have hBL : B140.length ≤ 100 := by first | omega | (rw [List.length_set]; omega) | (rw [List.length_append]; show _ + 1 ≤ _; omega)
   exact Ws (J178 _ _ ⟨_, _, _, _, _, _, _, _, _, _, _, _, _, _, _, _, _, _, _, _, _, _, G311, rfl, (hl224.trans (hl307.trans hl312)), S310, hl153, hl154, (r155.mono (hl224.trans (hl307.trans hl312))), (r156.mono (hl224.trans (hl307.trans hl312))), (r309.mono hl312), r313, by omega, by omega, by omega, by omega, by omega, by omega, by omega, hBL⟩) ⟨rfl, rfl, trivial⟩
  refine Wr ?_
  iterate 2 refine Pv ?_
  refine T_nil ?_
  refine W_cond_dec rfl (fun h314 => ?_) (fun h314 => ?_)
  ·refine W_region ?_
   refine Fl 58 ?_
   refine T_loadS 1 58 S232 rfl rfl rfl rfl rfl rfl rfl rfl rfl (gV_cell (shP hl153 hl154) 12 rfl rfl) ?_
   refine T_litS ([(0 : UInt8)].map bV) rfl rfl rfl rfl rfl rfl rfl rfl rfl rfl rfl rfl rfl (by simp [Value.cells]; rfl) rfl fun a315 w316 hB317 ho318 => ?_
   have S319 := S232.own hB317 ho318
   refine ⟨trivial, ?_⟩
   refine T_appendS 4 ((B140 ++ [(0 : UInt8)]).length) ((B140 ++ [(0 : UInt8)]).map bV) S319 (fun _ _ => trivial) rfl rfl rfl rfl rfl rfl rfl rfl rfl rfl rfl rfl rfl rfl (S319.rd 0 rfl) (one_bV _) (by first | rfl | (simp; done) | (simp; omega) | omega) (by simp) (by unfold maxLen; simp only [List.length_append, List.length_cons, List.length_nil]; omega) (by show _ * 1 ≤ _; simp only [List.length_append, List.length_cons, List.length_nil]; omega) fun a320 c321 w322 hc323 S324 => ?_
   refine Fl 58 ?_
   refine T_store1S 2 58 S324 (fun _ _ => trivial) rfl rfl rfl rfl rfl rfl rfl rfl rfl rfl rfl rfl (Nat.lt_of_lt_of_eq (show 58 < 59 by decide) (gV_size (L := [[.int .i64 pn128], [.int .i64 va129], [.int .i64 vb130], [.int .i64 vc131], [.int .i64 vd132], vs133.map bV, vr134.map bV, [.int .i64 sh135], [.int .i64 sl136], [.slice a141 X137.length c149], [.slice a142 Y138.length c150], [.slice a198 Z139.length c199], [.slice a205 B140.length c206]]) (shP hl153 hl154) rfl).symm) fun w325 S326 => ?_
   have S327 := S326.re 2 rfl (show (gV [[.int .i64 pn128], [.int .i64 va129], [.int .i64 vb130], [.int .i64 vc131], [.int .i64 vd132], vs133.map bV, vr134.map bV, [.int .i64 sh135], [.int .i64 sl136], [.slice a141 X137.length c149], [.slice a142 Y138.length c150], [.slice a198 Z139.length c199], [.slice a205 B140.length c206]] : Value).cells.setIfInBounds 58 (.slice a320 ((B140 ++ [(0 : UInt8)]).length) c321) = (gV [[.int .i64 pn128], [.int .i64 va129], [.int .i64 vb130], [.int .i64 vc131], [.int .i64 vd132], vs133.map bV, vr134.map bV, [.int .i64 sh135], [.int .i64 sl136], [.slice a141 X137.length c149], [.slice a142 Y138.length c150], [.slice a198 Z139.length c199], [.slice a320 ((B140 ++ [(0 : UInt8)]).length) c321]] : Value).cells from gV_set (shP hl153 hl154) 12 _ rfl rfl)
   refine T_nil ?_
   obtain ⟨G329, hl330, S328, r331⟩ := S327.stillRow 3 rfl
   have r332 := RdH.mk r157.1 (by decide) r331
   obtain ⟨G334, hl335, S333, r336⟩ := S328.stillRow 3 rfl
   have S337 := S333.drop 0
   have hBL : (B140 ++ [(0 : UInt8)]).length ≤ 100 := by first | omega | (rw [List.length_set]; omega) | (rw [List.length_append]; show _ + 1 ≤ _; omega)
   exact Ws (J178 _ _ ⟨_, _, _, _, _, _, _, _, _, _, _, _, _, _, _, _, _, _, _, _, _, _, G334, rfl, (hl224.trans (hl330.trans hl335)), S337, hl153, hl154, (r155.mono (hl224.trans (hl330.trans hl335))), (r156.mono (hl224.trans (hl330.trans hl335))), (r332.mono hl335), r336, by omega, by omega, by omega, by omega, by omega, by omega, by omega, hBL⟩) ⟨rfl, rfl, trivial⟩
  refine Wr ?_
  iterate 2 refine Pv ?_
  refine T_nil ?_
  refine W_cond_dec rfl (fun h338 => ?_) (fun h338 => ?_)
  ·refine W_region ?_
   refine Fl 53 ?_
   refine Fl 54 ?_
   refine T_loadS 1 54 S232 rfl rfl rfl rfl rfl rfl rfl rfl rfl (gV_cell (shP hl153 hl154) 8 rfl rfl) ?_
   refine Ar ?_
   refine Fl 53 ?_
   refine Fl 54 ?_
   refine T_store1S 1 54 S232 (fun _ _ => trivial) rfl rfl rfl rfl rfl rfl rfl rfl rfl rfl rfl rfl (Nat.lt_of_lt_of_eq (show 54 < 59 by decide) (gV_size (L := [[.int .i64 pn128], [.int .i64 va129], [.int .i64 vb130], [.int .i64 vc131], [.int .i64 vd132], vs133.map bV, vr134.map bV, [.int .i64 sh135], [.int .i64 sl136], [.slice a141 X137.length c149], [.slice a142 Y138.length c150], [.slice a198 Z139.length c199], [.slice a205 B140.length c206]]) (shP hl153 hl154) rfl).symm) fun w339 S340 => ?_
   have S341 := S340.re 1 rfl (show (gV [[.int .i64 pn128], [.int .i64 va129], [.int .i64 vb130], [.int .i64 vc131], [.int .i64 vd132], vs133.map bV, vr134.map bV, [.int .i64 sh135], [.int .i64 sl136], [.slice a141 X137.length c149], [.slice a142 Y138.length c150], [.slice a198 Z139.length c199], [.slice a205 B140.length c206]] : Value).cells.setIfInBounds 54 (.int .i64 (sl136 + (1 : Int))) = (gV [[.int .i64 pn128], [.int .i64 va129], [.int .i64 vb130], [.int .i64 vc131], [.int .i64 vd132], vs133.map bV, vr134.map bV, [.int .i64 sh135], [.int .i64 (sl136 + (1 : Int))], [.slice a141 X137.length c149], [.slice a142 Y138.length c150], [.slice a198 Z139.length c199], [.slice a205 B140.length c206]] : Value).cells from gV_set (shP hl153 hl154) 8 _ rfl rfl)
   refine T_nil ?_
   obtain ⟨G343, hl344, S342, r345⟩ := S341.stillRow 2 rfl
   have r346 := RdH.mk r157.1 (by decide) r345
   obtain ⟨G348, hl349, S347, r350⟩ := S342.stillRow 2 rfl
   have hBL : B140.length ≤ 100 := by first | omega | (rw [List.length_set]; omega) | (rw [List.length_append]; show _ + 1 ≤ _; omega)
   exact Ws (J178 _ _ ⟨_, _, _, _, _, _, _, _, _, _, _, _, _, _, _, _, _, _, _, _, _, _, G348, rfl, (hl224.trans (hl344.trans hl349)), S347, hl153, hl154, (r155.mono (hl224.trans (hl344.trans hl349))), (r156.mono (hl224.trans (hl344.trans hl349))), (r346.mono hl349), r350, by omega, by omega, by omega, by omega, by omega, by omega, by omega, hBL⟩) ⟨rfl, rfl, trivial⟩
  refine Wr ?_
  iterate 2 refine Pv ?_
  refine T_nil ?_
  refine W_cond_dec rfl (fun h351 => ?_) (fun h351 => ?_)
  ·refine W_region ?_
   refine Fl 1 ?_
   refine Fl 4 ?_
   refine T_loadS 1 4 S232 rfl rfl rfl rfl rfl rfl rfl rfl rfl (gV_cell (shP hl153 hl154) 4 rfl rfl) ?_
   iterate 2 refine Pv ?_
   refine T_re (v' := .int .i64 (at0 % 2)) (congrArg (Value.int .i64) (andI1 hat)) ?_
   iterate 3 refine Ar ?_
   refine Fl 1 ?_
   refine Fl 4 ?_
   refine T_store1S 1 4 S232 (fun _ _ => trivial) rfl rfl rfl rfl rfl rfl rfl rfl rfl rfl rfl rfl (Nat.lt_of_lt_of_eq (show 4 < 59 by decide) (gV_size (L := [[.int .i64 pn128], [.int .i64 va129], [.int .i64 vb130], [.int .i64 vc131], [.int .i64 vd132], vs133.map bV, vr134.map bV, [.int .i64 sh135], [.int .i64 sl136], [.slice a141 X137.length c149], [.slice a142 Y138.length c150], [.slice a198 Z139.length c199], [.slice a205 B140.length c206]]) (shP hl153 hl154) rfl).symm) fun w352 S353 => ?_
   have S354 := S353.re 1 rfl (show (gV [[.int .i64 pn128], [.int .i64 va129], [.int .i64 vb130], [.int .i64 vc131], [.int .i64 vd132], vs133.map bV, vr134.map bV, [.int .i64 sh135], [.int .i64 sl136], [.slice a141 X137.length c149], [.slice a142 Y138.length c150], [.slice a198 Z139.length c199], [.slice a205 B140.length c206]] : Value).cells.setIfInBounds 4 (.int .i64 (vd132 + ((1 : Int) - ((2 : Int) * (at0 % 2))))) = (gV [[.int .i64 pn128], [.int .i64 va129], [.int .i64 vb130], [.int .i64 vc131], [.int .i64 (vd132 + ((1 : Int) - ((2 : Int) * (at0 % 2))))], vs133.map bV, vr134.map bV, [.int .i64 sh135], [.int .i64 sl136], [.slice a141 X137.length c149], [.slice a142 Y138.length c150], [.slice a198 Z139.length c199], [.slice a205 B140.length c206]] : Value).cells from gV_set (shP hl153 hl154) 4 _ rfl rfl)
   refine T_nil ?_
   obtain ⟨G356, hl357, S355, r358⟩ := S354.stillRow 2 rfl
   have r359 := RdH.mk r157.1 (by decide) r358
   obtain ⟨G361, hl362, S360, r363⟩ := S355.stillRow 2 rfl
   have hBL : B140.length ≤ 100 := by first | omega | (rw [List.length_set]; omega) | (rw [List.length_append]; show _ + 1 ≤ _; omega)
   exact Ws (J178 _ _ ⟨_, _, _, _, _, _, _, _, _, _, _, _, _, _, _, _, _, _, _, _, _, _, G361, rfl, (hl224.trans (hl357.trans hl362)), S360, hl153, hl154, (r155.mono (hl224.trans (hl357.trans hl362))), (r156.mono (hl224.trans (hl357.trans hl362))), (r359.mono hl362), r363, by omega, by omega, by omega, by omega, by omega, by omega, by omega, hBL⟩) ⟨rfl, rfl, trivial⟩
  refine W_skip ?_
  obtain ⟨G365, hl366, S364, r367⟩ := S232.stillRow 2 rfl
  have r368 := RdH.mk r157.1 (by decide) r367
  obtain ⟨G370, hl371, S369, r372⟩ := S364.stillRow 2 rfl
  have hBL : B140.length ≤ 100 := by first | omega | (rw [List.length_set]; omega) | (rw [List.length_append]; show _ + 1 ≤ _; omega)
  exact Ws (J178 _ _ ⟨_, _, _, _, _, _, _, _, _, _, _, _, _, _, _, _, _, _, _, _, _, _, G370, rfl, (hl224.trans (hl366.trans hl371)), S369, hl153, hl154, (r155.mono (hl224.trans (hl366.trans hl371))), (r156.mono (hl224.trans (hl366.trans hl371))), (r368.mono hl371), r372, by omega, by omega, by omega, by omega, by omega, by omega, by omega, hBL⟩) ⟨rfl, rfl, trivial⟩
 refine W_seq ?_
 refine W_tree (plan Tryz.prog) (.step 0 (.step 1 (.step 3 (.fork 2 4 (.step 4 (.step 5 (.step 6 (.step 7 (.step 8 (.step 9 .done)))))) (.step 2 (.step 5 (.step 6 (.step 7 (.step 8 (.step 9 .done)))))))))) rfl (by kernel_rfl) trivial ?_
 have S373 := S173.drew
 refine TT_step rfl ?_
 refine Fl 57 ?_
 refine T_nil ?_
 refine TT_step rfl ?_
 refine T_loadS 1 57 S373 rfl rfl rfl rfl rfl rfl rfl rfl rfl (gV_cell (shP hl153 hl154) 11 rfl rfl) ?_
 refine T_nil ?_
 refine TT_step rfl ?_
 refine Fl 58 ?_
 refine T_nil ?_
 refine TT_fork rfl rfl ?_ ?_
 ·refine Cs g_aumbry_aumbrykeep_Copy_aumbry_api_Hash ((copyH_ok S373.le r157 (by omega)).mono ?_)
  rintro e w379 ⟨a374, c375, hc376, rfl, ho377, hB378⟩
  have S380 := S373.own hB378 ho377
  refine ⟨_, rfl, trivial, ?_⟩
  refine T_nil ?_
  refine TT_step rfl ?_
  refine T_loadS 2 58 S380 rfl rfl rfl rfl rfl rfl rfl rfl rfl (gV_cell (shP hl153 hl154) 12 rfl rfl) ?_
  refine T_nil ?_
  refine TT_step rfl ?_
  refine Cs g_aumbry_aumbrykeep_Copy_byte ((copyB_ok S380.le r158 (by omega)).mono ?_)
  rintro e w386 ⟨a381, c382, hc383, rfl, ho384, hB385⟩
  have S387 := S380.own hB385 ho384
  refine ⟨_, rfl, trivial, ?_⟩
  refine T_nil ?_
  refine TT_step rfl ?_
  refine Fl 57 ?_
  refine T_nil ?_
  refine TT_step rfl ?_
  refine T_store1S 3 57 S387 (fun _ _ => trivial) rfl rfl rfl rfl rfl rfl rfl rfl rfl rfl rfl rfl (Nat.lt_of_lt_of_eq (show 57 < 59 by decide) (gV_size (L := [[.int .i64 pn128], [.int .i64 va129], [.int .i64 vb130], [.int .i64 vc131], [.int .i64 vd132], vs133.map bV, vr134.map bV, [.int .i64 sh135], [.int .i64 sl136], [.slice a141 X137.length c149], [.slice a142 Y138.length c150], [.slice a143 Z139.length c151], [.slice a144 B140.length c152]]) (shP hl153 hl154) rfl).symm) fun w388 S389 => ?_
  have S390 := S389.re 3 rfl (show (gV [[.int .i64 pn128], [.int .i64 va129], [.int .i64 vb130], [.int .i64 vc131], [.int .i64 vd132], vs133.map bV, vr134.map bV, [.int .i64 sh135], [.int .i64 sl136], [.slice a141 X137.length c149], [.slice a142 Y138.length c150], [.slice a143 Z139.length c151], [.slice a144 B140.length c152]] : Value).cells.setIfInBounds 57 (.slice a374 Z139.length c375) = (gV [[.int .i64 pn128], [.int .i64 va129], [.int .i64 vb130], [.int .i64 vc131], [.int .i64 vd132], vs133.map bV, vr134.map bV, [.int .i64 sh135], [.int .i64 sl136], [.slice a141 X137.length c149], [.slice a142 Y138.length c150], [.slice a374 Z139.length c375], [.slice a144 B140.length c152]] : Value).cells from gV_set (shP hl153 hl154) 11 _ rfl rfl)
  refine T_nil ?_
  refine TT_step rfl ?_
  refine Fl 58 ?_
  refine T_nil ?_
  refine TT_step rfl ?_
  refine T_store1S 3 58 S390 (fun _ _ => trivial) rfl rfl rfl rfl rfl rfl rfl rfl rfl rfl rfl rfl (Nat.lt_of_lt_of_eq (show 58 < 59 by decide) (gV_size (L := [[.int .i64 pn128], [.int .i64 va129], [.int .i64 vb130], [.int .i64 vc131], [.int .i64 vd132], vs133.map bV, vr134.map bV, [.int .i64 sh135], [.int .i64 sl136], [.slice a141 X137.length c149], [.slice a142 Y138.length c150], [.slice a374 Z139.length c375], [.slice a144 B140.length c152]]) (shP hl153 hl154) rfl).symm) fun w391 S392 => ?_
  have S393 := S392.re 3 rfl (show (gV [[.int .i64 pn128], [.int .i64 va129], [.int .i64 vb130], [.int .i64 vc131], [.int .i64 vd132], vs133.map bV, vr134.map bV, [.int .i64 sh135], [.int .i64 sl136], [.slice a141 X137.length c149], [.slice a142 Y138.length c150], [.slice a374 Z139.length c375], [.slice a144 B140.length c152]] : Value).cells.setIfInBounds 58 (.slice a381 B140.length c382) = (gV [[.int .i64 pn128], [.int .i64 va129], [.int .i64 vb130], [.int .i64 vc131], [.int .i64 vd132], vs133.map bV, vr134.map bV, [.int .i64 sh135], [.int .i64 sl136], [.slice a141 X137.length c149], [.slice a142 Y138.length c150], [.slice a374 Z139.length c375], [.slice a381 B140.length c382]] : Value).cells from gV_set (shP hl153 hl154) 12 _ rfl rfl)
  refine T_nil ?_
  refine TT_done ?_
  have S394 := S393.swap12
  have S395 := S394.swap01
  have S396 := S395.swap23
  have S397 := S396.swap12
  have S398 := S397.swap23
  exact Ws (J227 _ _ ⟨_, _, _, _, G116, rfl, (Hp.le.refl _), S398, hc376, hc383⟩) ⟨rfl, rfl, rfl, rfl, trivial⟩
 refine T_loadS 1 58 S373 rfl rfl rfl rfl rfl rfl rfl rfl rfl (gV_cell (shP hl153 hl154) 12 rfl rfl) ?_
 refine T_nil ?_
 refine TT_step rfl ?_
 refine Cs g_aumbry_aumbrykeep_Copy_aumbry_api_Hash ((copyH_ok S373.le r157 (by omega)).mono ?_)
 rintro e w404 ⟨a399, c400, hc401, rfl, ho402, hB403⟩
 have S405 := S373.own hB403 ho402
 refine ⟨_, rfl, trivial, ?_⟩
 refine T_nil ?_
 refine TT_step rfl ?_
 refine Cs g_aumbry_aumbrykeep_Copy_byte ((copyB_ok S405.le r158 (by omega)).mono ?_)
 rintro e w411 ⟨a406, c407, hc408, rfl, ho409, hB410⟩
 have S412 := S405.own hB410 ho409
 refine ⟨_, rfl, trivial, ?_⟩
 refine T_nil ?_
 refine TT_step rfl ?_
 refine Fl 57 ?_
 refine T_nil ?_
 refine TT_step rfl ?_
 refine T_store1S 3 57 S412 (fun _ _ => trivial) rfl rfl rfl rfl rfl rfl rfl rfl rfl rfl rfl rfl (Nat.lt_of_lt_of_eq (show 57 < 59 by decide) (gV_size (L := [[.int .i64 pn128], [.int .i64 va129], [.int .i64 vb130], [.int .i64 vc131], [.int .i64 vd132], vs133.map bV, vr134.map bV, [.int .i64 sh135], [.int .i64 sl136], [.slice a141 X137.length c149], [.slice a142 Y138.length c150], [.slice a143 Z139.length c151], [.slice a144 B140.length c152]]) (shP hl153 hl154) rfl).symm) fun w413 S414 => ?_
 have S415 := S414.re 3 rfl (show (gV [[.int .i64 pn128], [.int .i64 va129], [.int .i64 vb130], [.int .i64 vc131], [.int .i64 vd132], vs133.map bV, vr134.map bV, [.int .i64 sh135], [.int .i64 sl136], [.slice a141 X137.length c149], [.slice a142 Y138.length c150], [.slice a143 Z139.length c151], [.slice a144 B140.length c152]] : Value).cells.setIfInBounds 57 (.slice a399 Z139.length c400) = (gV [[.int .i64 pn128], [.int .i64 va129], [.int .i64 vb130], [.int .i64 vc131], [.int .i64 vd132], vs133.map bV, vr134.map bV, [.int .i64 sh135], [.int .i64 sl136], [.slice a141 X137.length c149], [.slice a142 Y138.length c150], [.slice a399 Z139.length c400], [.slice a144 B140.length c152]] : Value).cells from gV_set (shP hl153 hl154) 11 _ rfl rfl)
 refine T_nil ?_
 refine TT_step rfl ?_
 refine Fl 58 ?_
 refine T_nil ?_
 refine TT_step rfl ?_
 refine T_store1S 3 58 S415 (fun _ _ => trivial) rfl rfl rfl rfl rfl rfl rfl rfl rfl rfl rfl rfl (Nat.lt_of_lt_of_eq (show 58 < 59 by decide) (gV_size (L := [[.int .i64 pn128], [.int .i64 va129], [.int .i64 vb130], [.int .i64 vc131], [.int .i64 vd132], vs133.map bV, vr134.map bV, [.int .i64 sh135], [.int .i64 sl136], [.slice a141 X137.length c149], [.slice a142 Y138.length c150], [.slice a399 Z139.length c400], [.slice a144 B140.length c152]]) (shP hl153 hl154) rfl).symm) fun w416 S417 => ?_
 have S418 := S417.re 3 rfl (show (gV [[.int .i64 pn128], [.int .i64 va129], [.int .i64 vb130], [.int .i64 vc131], [.int .i64 vd132], vs133.map bV, vr134.map bV, [.int .i64 sh135], [.int .i64 sl136], [.slice a141 X137.length c149], [.slice a142 Y138.length c150], [.slice a399 Z139.length c400], [.slice a144 B140.length c152]] : Value).cells.setIfInBounds 58 (.slice a406 B140.length c407) = (gV [[.int .i64 pn128], [.int .i64 va129], [.int .i64 vb130], [.int .i64 vc131], [.int .i64 vd132], vs133.map bV, vr134.map bV, [.int .i64 sh135], [.int .i64 sl136], [.slice a141 X137.length c149], [.slice a142 Y138.length c150], [.slice a399 Z139.length c400], [.slice a406 B140.length c407]] : Value).cells from gV_set (shP hl153 hl154) 12 _ rfl rfl)
 refine T_nil ?_
 refine TT_done ?_
 have S419 := S418.swap12
 have S420 := S419.swap01
 have S421 := S420.swap23
 have S422 := S421.swap12
 have S423 := S422.swap23
 exact Ws (J227 _ _ ⟨_, _, _, _, G116, rfl, (Hp.le.refl _), S423, hc401, hc408⟩) ⟨rfl, rfl, rfl, rfl, trivial⟩

end Go.Proofs.YtmjmjjkigblbgaaGreatDoor
