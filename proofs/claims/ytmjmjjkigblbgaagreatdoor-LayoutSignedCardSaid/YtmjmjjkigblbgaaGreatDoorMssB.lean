/- Whether a signature is right: the program's and the document's. -/
import Derived.Test.YtmjmjjkigblbgaaGreatDoorMssA
import Derived.Test.YtmjmjjkigblbgaaGreatDoorAuDoor
import Derived.Test.YtmjmjjkigblbgaaGreatDoorKeepN
set_option linter.unusedVariables false
set_option linter.unusedSimpArgs false
set_option maxRecDepth 8192
namespace Go.Proofs.YtmjmjjkigblbgaaGreatDoor
open Go Go.F Go.RowKit

theorem mclimb_a {H : Hp} {w : World} (hH : H.le (hw w)) (hT : Tabs H) (sh sl : Int) {v p : List (List UInt8)} {a1 a2 : Option Addr} {n1 n2 c1 c2 : Nat} (h1 : RdH H (.slice a1 n1 c1) 32 v) (h2 : RdH H (.slice a2 n2 c2) 32 p) {m : List UInt8} {aa0 : Option Addr} {nn0 cc0 : Nat} (hv : Rd H (.slice aa0 nn0 cc0) nn0 1 (m.map bV)) (hml : m.length < 1000) (hm : ¬ (0 ≤ sh ∧ sh ≤ 4)) :
  Calls Tryz.prog 91 #[.slice aa0 nn0 cc0, .agg #[.int .i64 sh, .int .i64 sl, .slice a1 n1 c1, .slice a2 n2 c2]] w fun e w' => e = .returned (.tuple #[hV (List.replicate 32 0), .bool false]) ∧ Below w.heap.size w w' := by
 obtain rfl : nn0 = m.length := hv.lenB
 have hvcap : m.length ≤ cc0 := hv.capOf
 obtain rfl : n1 = v.length := h1.len
 obtain rfl : n2 = p.length := h2.len
 refine enter2 _ Tryz.func91 rfl Tryz.ntmps91 Tryz.results91 rfl ?_
 have S0 := St.start w hH
 refine Wr ?_
 refine T_boxS S0 (fun _ _ => trivial) rfl rfl rfl rfl rfl rfl fun b1 w2 S3 => ?_
 refine T_allocS S3 (fun _ _ => trivial) rfl rfl rfl rfl rfl rfl rfl fun b4 w5 S6 => ?_
 refine Pv ?_
 refine T_nil ?_
 refine W_seq ?_
 refine Wr ?_
 refine Fl 0 ?_
 refine T_loadS 1 0 S6 rfl rfl rfl rfl rfl rfl rfl rfl rfl rfl ?_
 refine Cs g_aumbry_mss_may ((mssMay_ok S6.le sh).mono ?_)
 rintro e w8 ⟨rfl, hB7⟩
 have S9 := S6.call hB7
 refine ⟨_, rfl, trivial, ?_⟩
 refine Pv ?_
 refine T_nil ?_
 refine W_bool 11 true rfl (may_not hm) ?_
 refine W_cond_true rfl ?_
 refine Wr ?_
 refine T_buildA (cells := (hV (List.replicate 32 0)).cells) rfl rfl rfl rfl rfl rfl rfl rfl rfl rfl ?_
 refine T_storeFS 0 S9 (fun _ _ => trivial) rfl rfl rfl rfl rfl rfl rfl rfl rfl (hVs List.length_replicate) (hVs List.length_replicate) (one_hA _) fun w10 S11 => ?_
 refine Pv ?_
 refine T_nil ?_
 refine W_ret ?_
 refine ⟨_, ⟨_, _, _, rfl, rfl, run_loadVarA rfl rfl (hVs List.length_replicate) (S11.cells 0 rfl), ⟨_, _, rfl, rfl, rfl⟩⟩, ?_⟩
 exact ⟨rfl, S11.below⟩


theorem mclimb_b {H : Hp} {w : World} (hH : H.le (hw w)) (hT : Tabs H) (sh sl : Int) {v p : List (List UInt8)} {a1 a2 : Option Addr} {n1 n2 c1 c2 : Nat} (h1 : RdH H (.slice a1 n1 c1) 32 v) (h2 : RdH H (.slice a2 n2 c2) 32 p) {m : List UInt8} {aa0 : Option Addr} {nn0 cc0 : Nat} (hv : Rd H (.slice aa0 nn0 cc0) nn0 1 (m.map bV)) (hml : m.length < 1000) (hm : 0 ≤ sh ∧ sh ≤ 4) (h67 : ¬ v.length = 67) :
  Calls Tryz.prog 91 #[.slice aa0 nn0 cc0, .agg #[.int .i64 sh, .int .i64 sl, .slice a1 n1 c1, .slice a2 n2 c2]] w fun e w' => e = .returned (.tuple #[hV (List.replicate 32 0), .bool false]) ∧ Below w.heap.size w w' := by
 obtain rfl : nn0 = m.length := hv.lenB
 have hvcap : m.length ≤ cc0 := hv.capOf
 obtain rfl : n1 = v.length := h1.len
 obtain rfl : n2 = p.length := h2.len
 refine enter2 _ Tryz.func91 rfl Tryz.ntmps91 Tryz.results91 rfl ?_
 have S0 := St.start w hH
 refine Wr ?_
 refine T_boxS S0 (fun _ _ => trivial) rfl rfl rfl rfl rfl rfl fun b1 w2 S3 => ?_
 refine T_allocS S3 (fun _ _ => trivial) rfl rfl rfl rfl rfl rfl rfl fun b4 w5 S6 => ?_
 refine Pv ?_
 refine T_nil ?_
 refine W_seq ?_
 refine Wr ?_
 refine Fl 0 ?_
 refine T_loadS 1 0 S6 rfl rfl rfl rfl rfl rfl rfl rfl rfl rfl ?_
 refine Cs g_aumbry_mss_may ((mssMay_ok S6.le sh).mono ?_)
 rintro e w8 ⟨rfl, hB7⟩
 have S9 := S6.call hB7
 refine ⟨_, rfl, trivial, ?_⟩
 refine Pv ?_
 refine T_nil ?_
 refine W_bool 11 false rfl (may_is hm) ?_
 refine W_cond_false rfl ?_
 refine W_skip ?_
 refine Wr ?_
 refine Pv ?_
 refine Fl 2 ?_
 refine T_loadS 1 2 S9 rfl rfl rfl rfl rfl rfl rfl rfl rfl rfl ?_
 refine Cs g_aumbry_wots_Recover ((recover_ok_no S9.le hT hv h1 (by omega) (by omega)).mono ?_)
 rintro e w11 ⟨rfl, hB10⟩
 have S12 := S9.call hB10
 refine ⟨_, rfl, trivial, ?_⟩
 iterate 3 refine Pv ?_
 refine T_allocS S12 (fun _ _ => trivial) rfl rfl rfl rfl rfl rfl rfl fun b13 w14 S15 => ?_
 refine T_storeFS 0 S15 (fun _ _ => trivial) rfl rfl rfl rfl rfl rfl rfl rfl rfl (hVs List.length_replicate) (hVs List.length_replicate) (one_hA _) fun w16 S17 => ?_
 refine Pv ?_
 refine T_nil ?_
 refine W_seq ?_
 refine Wr ?_
 iterate 2 refine Pv ?_
 refine T_nil ?_
 refine W_cond_true rfl ?_
 refine Wr ?_
 refine T_buildA (cells := (hV (List.replicate 32 0)).cells) rfl rfl rfl rfl rfl rfl rfl rfl rfl rfl ?_
 refine T_storeFS 1 S17 (fun _ _ => trivial) rfl rfl rfl rfl rfl rfl rfl rfl rfl (hVs List.length_replicate) (hVs List.length_replicate) (one_hA _) fun w18 S19 => ?_
 refine Pv ?_
 refine T_nil ?_
 refine W_ret ?_
 refine ⟨_, ⟨_, _, _, rfl, rfl, run_loadVarA rfl rfl (hVs List.length_replicate) (S19.cells 1 rfl), ⟨_, _, rfl, rfl, rfl⟩⟩, ?_⟩
 exact ⟨rfl, S19.below⟩


theorem mclimb_c {H : Hp} {w : World} (hH : H.le (hw w)) (hT : Tabs H) (sh sl : Int) {v p : List (List UInt8)} {a1 a2 : Option Addr} {n1 n2 c1 c2 : Nat} (h1 : RdH H (.slice a1 n1 c1) 32 v) (h2 : RdH H (.slice a2 n2 c2) 32 p) {m : List UInt8} {aa0 : Option Addr} {nn0 cc0 : Nat} (hv : Rd H (.slice aa0 nn0 cc0) nn0 1 (m.map bV)) (hml : m.length < 1000) (hm : 0 ≤ sh ∧ sh ≤ 4) (h67 : v.length = 67) :
  Calls Tryz.prog 91 #[.slice aa0 nn0 cc0, .agg #[.int .i64 sh, .int .i64 sl, .slice a1 n1 c1, .slice a2 n2 c2]] w fun e w' => e = .returned (.tuple #[hV (Go.Au.climbH ((2 ^ sh.toNat : Nat) : Int) sl (Go.Au.pubH (Go.Au.ends m v 67)) p), .bool (Go.Au.okW ((2 ^ sh.toNat : Nat) : Int) sl p.length)]) ∧ Below w.heap.size w w' := by
 obtain rfl : nn0 = m.length := hv.lenB
 have hvcap : m.length ≤ cc0 := hv.capOf
 obtain rfl : n1 = v.length := h1.len
 obtain rfl : n2 = p.length := h2.len
 have hp16 := Go.Au.pow16 (h := sh) (by omega) (by omega)
 refine enter2 _ Tryz.func91 rfl Tryz.ntmps91 Tryz.results91 rfl ?_
 have S0 := St.start w hH
 refine Wr ?_
 refine T_boxS S0 (fun _ _ => trivial) rfl rfl rfl rfl rfl rfl fun b1 w2 S3 => ?_
 refine T_allocS S3 (fun _ _ => trivial) rfl rfl rfl rfl rfl rfl rfl fun b4 w5 S6 => ?_
 refine Pv ?_
 refine T_nil ?_
 refine W_seq ?_
 refine Wr ?_
 refine Fl 0 ?_
 refine T_loadS 1 0 S6 rfl rfl rfl rfl rfl rfl rfl rfl rfl rfl ?_
 refine Cs g_aumbry_mss_may ((mssMay_ok S6.le sh).mono ?_)
 rintro e w8 ⟨rfl, hB7⟩
 have S9 := S6.call hB7
 refine ⟨_, rfl, trivial, ?_⟩
 refine Pv ?_
 refine T_nil ?_
 refine W_bool 11 false rfl (may_is hm) ?_
 refine W_cond_false rfl ?_
 refine W_skip ?_
 refine Wr ?_
 refine Pv ?_
 refine Fl 2 ?_
 refine T_loadS 1 2 S9 rfl rfl rfl rfl rfl rfl rfl rfl rfl rfl ?_
 refine Cs g_aumbry_wots_Recover ((recover_ok S9.le hT hv h1 (by omega) (by omega)).mono ?_)
 rintro e w11 ⟨rfl, hB10⟩
 have S12 := S9.call hB10
 refine ⟨_, rfl, trivial, ?_⟩
 iterate 3 refine Pv ?_
 refine T_allocS S12 (fun _ _ => trivial) rfl rfl rfl rfl rfl rfl rfl fun b13 w14 S15 => ?_
 refine T_storeFS 0 S15 (fun _ _ => trivial) rfl rfl rfl rfl rfl rfl rfl rfl rfl (hVs (Go.Au.pubH_len _)) (hVs (Go.Au.pubH_len _)) (one_hA _) fun w16 S17 => ?_
 refine Pv ?_
 refine T_nil ?_
 refine W_seq ?_
 refine Wr ?_
 iterate 2 refine Pv ?_
 refine T_nil ?_
 refine W_cond_false rfl ?_
 refine W_skip ?_
 refine W_seq ?_
 refine W_draw rfl (by kernel_rfl) ?_
 have S18 := S17.drew
 refine Fl 0 ?_
 refine T_loadS 2 0 S18 rfl rfl rfl rfl rfl rfl rfl rfl rfl rfl ?_
 refine T_shl rfl rfl rfl rfl rfl rfl (by omega) ?_
 refine T_re (v' := .int .i64 ((2 ^ sh.toNat : Nat) : Int)) (congrArg (Value.int .i64) (shlI (by omega) (by omega))) ?_
 refine Fl 1 ?_
 refine T_loadS 2 1 S18 rfl rfl rfl rfl rfl rfl rfl rfl rfl rfl ?_
 refine T_loadFS 0 S18 rfl rfl rfl rfl rfl rfl rfl rfl rfl (hVs (Go.Au.pubH_len _)) ?_
 refine Fl 3 ?_
 refine T_loadS 2 3 S18 rfl rfl rfl rfl rfl rfl rfl rfl rfl rfl ?_
 refine Cs g_aumbry_tree_Climb ((climb_ok S18.le hT ((2 ^ sh.toNat : Nat) : Int) sl (Go.Au.pubH_len _) h2).mono ?_)
 rintro e w20 ⟨rfl, hB19⟩
 have S21 := S18.call hB19
 refine ⟨_, rfl, trivial, ?_⟩
 iterate 2 refine Pv ?_
 refine T_storeFS 1 S21 (fun _ _ => trivial) rfl rfl rfl rfl rfl rfl rfl rfl rfl (hVs (Go.Au.climbH_len _ _ (Go.Au.pubH_len _) _)) (hVs (Go.Au.climbH_len _ _ (Go.Au.pubH_len _) _)) (one_hA _) fun w22 S23 => ?_
 refine Pv ?_
 refine T_nil ?_
 refine W_ret ?_
 refine ⟨_, ⟨_, _, _, rfl, rfl, run_loadVarA rfl rfl (hVs (Go.Au.climbH_len _ _ (Go.Au.pubH_len _) _)) (S23.cells 1 rfl), ⟨_, _, rfl, rfl, rfl⟩⟩, ?_⟩
 exact ⟨rfl, S23.below⟩


theorem mclimb_ok {H : Hp} {w : World} (hH : H.le (hw w)) (hT : Tabs H) (sh sl : Int) {v p : List (List UInt8)} {a1 a2 : Option Addr} {n1 n2 c1 c2 : Nat} (h1 : RdH H (.slice a1 n1 c1) 32 v) (h2 : RdH H (.slice a2 n2 c2) 32 p) {m : List UInt8} {aa0 : Option Addr} {nn0 cc0 : Nat} (hv : Rd H (.slice aa0 nn0 cc0) nn0 1 (m.map bV)) (hml : m.length < 1000) :
  Calls Tryz.prog 91 #[.slice aa0 nn0 cc0, .agg #[.int .i64 sh, .int .i64 sl, .slice a1 n1 c1, .slice a2 n2 c2]] w fun e w' => e = .returned (.tuple #[hV (Go.Au.climbS m sh sl v p), .bool (Go.Au.okS sh sl v p)]) ∧ Below w.heap.size w w' := by
 by_cases hm : 0 ≤ sh ∧ sh ≤ 4
 ·by_cases h67 : v.length = 67
  ·rw [Go.Au.climbS_c hm h67, Go.Au.okS_c hm h67]; exact mclimb_c hH hT sh sl h1 h2 hv hml hm h67
  ·rw [Go.Au.climbS_b h67, Go.Au.okS_b h67]; exact mclimb_b hH hT sh sl h1 h2 hv hml hm h67
 ·rw [Go.Au.climbS_a hm, Go.Au.okS_a hm]; exact mclimb_a hH hT sh sl h1 h2 hv hml hm

theorem verify_ok {H : Hp} {w : World} (hH : H.le (hw w)) (hT : Tabs H) {fp : List UInt8} (hf : fp.length = 32) (sh sl : Int) {v p : List (List UInt8)} {a1 a2 : Option Addr} {n1 n2 c1 c2 : Nat} (h1 : RdH H (.slice a1 n1 c1) 32 v) (h2 : RdH H (.slice a2 n2 c2) 32 p) {m : List UInt8} {aa1 : Option Addr} {nn1 cc1 : Nat} (hv : Rd H (.slice aa1 nn1 cc1) nn1 1 (m.map bV)) (hml : m.length < 1000) :
  Calls Tryz.prog 52 #[hV fp, .slice aa1 nn1 cc1, .agg #[.int .i64 sh, .int .i64 sl, .slice a1 n1 c1, .slice a2 n2 c2]] w fun e w' => e = .returned (.bool (Go.Au.vrf fp m sh sl v p)) ∧ Below w.heap.size w w' := by
 obtain rfl : nn1 = m.length := hv.lenB
 have hvcap : m.length ≤ cc1 := hv.capOf
 obtain rfl : n1 = v.length := h1.len
 obtain rfl : n2 = p.length := h2.len
 refine enter3 _ Tryz.func52 rfl Tryz.ntmps52 Tryz.results52 rfl ?_
 have S0 := St.start w hH
 refine Wr ?_
 refine T_boxS S0 (fun _ _ => trivial) rfl rfl rfl rfl rfl rfl fun b1 w2 S3 => ?_
 refine T_boxS S3 (fun _ _ => trivial) rfl rfl rfl rfl rfl rfl fun b4 w5 S6 => ?_
 refine Pv ?_
 refine T_nil ?_
 refine Wr ?_
 refine Pv ?_
 refine T_loadFS 0 S6 rfl rfl rfl rfl rfl rfl rfl rfl rfl (by first | rfl | simp [hVs, *]) ?_
 refine Cs g_aumbry_mss_climb ((mclimb_ok S6.le hT sh sl h1 h2 hv (by omega)).mono ?_)
 rintro e w8 ⟨rfl, hB7⟩
 have S9 := S6.call hB7
 refine ⟨_, rfl, trivial, ?_⟩
 iterate 3 refine Pv ?_
 refine T_allocS S9 (fun _ _ => trivial) rfl rfl rfl rfl rfl rfl rfl fun b10 w11 S12 => ?_
 refine T_storeFS 0 S12 (fun _ _ => trivial) rfl rfl rfl rfl rfl rfl rfl rfl rfl (hVs (Go.Au.climbS_len _ _ _ _ _)) (hVs (Go.Au.climbS_len _ _ _ _ _)) (one_hA _) fun w13 S14 => ?_
 refine Pv ?_
 refine T_nil ?_
 refine W_seq ?_
 obtain ⟨G16, hl17, S15, r18⟩ := S14.stillBlk 2 rfl
 refine W_plan (planF Tryz.prog G16 [22]) rfl (by kernel_rfl) S15.le ?_
 have S19 := S15.drew
 iterate 2 refine Pv ?_
 refine T_part (t := 16) rfl (List.cons_ne_nil _ _) (fun h20' => ?_) (fun h20' => ?_)
 ·have h20 := h20'
  refine Ys ?_
  refine Fl 0 ?_
  refine Ys ?_
  refine T_loadS 1 0 S19 rfl rfl rfl rfl rfl rfl rfl rfl rfl rfl ?_
  refine Ys ?_
  refine T_loadFS 0 S19 rfl rfl rfl rfl rfl rfl rfl rfl rfl (hVs (Go.Au.climbS_len _ _ _ _ _)) ?_
  refine Ys ?_
  have ho := Go.Au.okS_may h20
  have hpb := printT_bd sh (Go.Au.climbS_len m sh sl v p)
  refine Cs g_aumbry_mss_printed ((printT_ok S19.le (hT.mono hl17) sh (by omega) (Go.Au.climbS_len _ _ _ _ _)).mono ?_)
  rintro e w26 ⟨a21, c22, hc23, rfl, ho24, hB25⟩
  have S27 := S19.own hB25 ho24
  refine ⟨_, rfl, (((Hp.le.refl _)).trans S27.le), ?_⟩
  refine Ys ?_
  obtain ⟨G29, hl30, S28, r31⟩ := S27.stillRow 0 rfl
  refine Cs g_aumbry_sha_Sum ((sumN_ok S28.le r31 (by omega)).mono ?_)
  rintro e w33 ⟨rfl, hB32⟩
  have S34 := S28.call hB32
  refine ⟨_, rfl, ((hl30).trans S34.le), ?_⟩
  refine Ys ?_
  refine T_loadGAP _ (fun _ h => h) (still_cells r18) rfl rfl rfl rfl rfl rfl rfl rfl (hVs hf) ?_
  refine Ys ?_
  refine T_eqB (xs := Go.Sha.sha (Go.Au.printT sh (Go.Au.climbS m sh sl v p))) (ys := fp) rfl rfl rfl rfl rfl rfl rfl rfl rfl rfl rfl (Go.Sha.sha_len _) hf ?_
  iterate 2 refine Pv ?_
  refine T_nil ?_
  refine W_ret ?_
  refine ⟨_, ⟨_, _, rfl, rfl, rfl⟩, ?_⟩
  exact ⟨by rw [Go.Au.vrf_yes h20]; rfl, S34.below⟩
 have h20 := h20'
 iterate 7 refine No ?_
 iterate 2 refine Pv ?_
 refine T_nil ?_
 refine W_ret ?_
 refine ⟨_, ⟨_, _, rfl, rfl, rfl⟩, ?_⟩
 exact ⟨by rw [Go.Au.vrf_no h20]; rfl, S19.below⟩


theorem verifyR_b {H : Hp} {w : World} (hH : H.le (hw w)) {fp : List UInt8} (hf : fp.length = 32) (sh sl : Int) {v p : List (List UInt8)} {a1 a2 : Option Addr} {n1 n2 c1 c2 : Nat} (h1 : RdH H (.slice a1 n1 c1) 32 v) (h2 : RdH H (.slice a2 n2 c2) 32 p) {m : List UInt8} {aa1 : Option Addr} {nn1 cc1 : Nat} (hv : Rd H (.slice aa1 nn1 cc1) nn1 1 (m.map bV)) (hml : m.length < 1000) (h67 : ¬ v.length = 67) :
  Calls Tryz.prog 56 #[hV fp, .slice aa1 nn1 cc1, .agg #[.int .i64 sh, .int .i64 sl, .slice a1 n1 c1, .slice a2 n2 c2]] w fun e w' => e = .returned (.bool (Go.Au.vrf fp m sh sl v p)) ∧ Below w.heap.size w w' := by
 obtain rfl : nn1 = m.length := hv.lenB
 have hvcap : m.length ≤ cc1 := hv.capOf
 obtain rfl : n1 = v.length := h1.len
 obtain rfl : n2 = p.length := h2.len
 refine enter3 _ Tryz.func56 rfl Tryz.ntmps56 Tryz.results56 rfl ?_
 have S0 := St.start w hH
 refine Wr ?_
 refine T_boxS S0 (fun _ _ => trivial) rfl rfl rfl rfl rfl rfl fun b1 w2 S3 => ?_
 refine T_boxS S3 (fun _ _ => trivial) rfl rfl rfl rfl rfl rfl fun b4 w5 S6 => ?_
 refine Pv ?_
 refine T_nil ?_
 refine W_seq ?_
 refine Wr ?_
 refine Fl 0 ?_
 refine T_loadS 0 0 S6 rfl rfl rfl rfl rfl rfl rfl rfl rfl rfl ?_
 iterate 2 refine Pv ?_
 refine T_part (t := 13) rfl (List.cons_ne_nil _ _) (fun h7' => ?_) (fun h7' => ?_)
 ·have h7 := of_decide_eq_true h7'
  iterate 3 refine No ?_
  refine Pv ?_
  refine T_nil ?_
  refine W_cond_true rfl ?_
  refine Wr ?_
  refine Pv ?_
  refine T_nil ?_
  refine W_ret ?_
  refine ⟨_, ⟨_, _, rfl, rfl, rfl⟩, ?_⟩
  exact ⟨by rw [Go.Au.vrf_no (Go.Au.okS_b h67)]; rfl, S6.below⟩
 have h7 := of_decide_eq_false h7'
 refine Ys ?_
 refine Fl 0 ?_
 refine Ys ?_
 refine T_loadS 0 0 S6 rfl rfl rfl rfl rfl rfl rfl rfl rfl rfl ?_
 refine Ys ?_
 iterate 2 refine Pv ?_
 refine T_nil ?_
 refine W_cond_dec rfl (fun h8 => ?_) (fun h8 => ?_)
 ·refine Wr ?_
  refine Pv ?_
  refine T_nil ?_
  refine W_ret ?_
  refine ⟨_, ⟨_, _, rfl, rfl, rfl⟩, ?_⟩
  exact ⟨by rw [Go.Au.vrf_no (Go.Au.okS_b h67)]; rfl, S6.below⟩
 refine W_skip ?_
 refine Wr ?_
 refine Pv ?_
 refine Fl 2 ?_
 refine T_loadS 0 2 S6 rfl rfl rfl rfl rfl rfl rfl rfl rfl rfl ?_
 refine Cs g_aumbry_aumbryref07_Recover ((recoverR_ok_no S6.le hv h1 (by omega) (by omega)).mono ?_)
 rintro e w10 ⟨rfl, hB9⟩
 have S11 := S6.call hB9
 refine ⟨_, rfl, trivial, ?_⟩
 iterate 3 refine Pv ?_
 refine T_allocS S11 (fun _ _ => trivial) rfl rfl rfl rfl rfl rfl rfl fun b12 w13 S14 => ?_
 refine T_storeFS 0 S14 (fun _ _ => trivial) rfl rfl rfl rfl rfl rfl rfl rfl rfl (hVs List.length_replicate) (hVs List.length_replicate) (one_hA _) fun w15 S16 => ?_
 refine Pv ?_
 refine T_nil ?_
 refine W_seq ?_
 refine Wr ?_
 iterate 2 refine Pv ?_
 refine T_nil ?_
 refine W_cond_true rfl ?_
 refine Wr ?_
 refine Pv ?_
 refine T_nil ?_
 refine W_ret ?_
 refine ⟨_, ⟨_, _, rfl, rfl, rfl⟩, ?_⟩
 exact ⟨by rw [Go.Au.vrf_no (Go.Au.okS_b h67)]; rfl, S16.below⟩


theorem verifyR_a {H : Hp} {w : World} (hH : H.le (hw w)) {fp : List UInt8} (hf : fp.length = 32) (sh sl : Int) {v p : List (List UInt8)} {a1 a2 : Option Addr} {n1 n2 c1 c2 : Nat} (h1 : RdH H (.slice a1 n1 c1) 32 v) (h2 : RdH H (.slice a2 n2 c2) 32 p) {m : List UInt8} {aa1 : Option Addr} {nn1 cc1 : Nat} (hv : Rd H (.slice aa1 nn1 cc1) nn1 1 (m.map bV)) (hml : m.length < 1000) (h67 : v.length = 67) :
  Calls Tryz.prog 56 #[hV fp, .slice aa1 nn1 cc1, .agg #[.int .i64 sh, .int .i64 sl, .slice a1 n1 c1, .slice a2 n2 c2]] w fun e w' => e = .returned (.bool (Go.Au.vrf fp m sh sl v p)) ∧ Below w.heap.size w w' := by
 obtain rfl : nn1 = m.length := hv.lenB
 have hvcap : m.length ≤ cc1 := hv.capOf
 obtain rfl : n1 = v.length := h1.len
 obtain rfl : n2 = p.length := h2.len
 refine enter3 _ Tryz.func56 rfl Tryz.ntmps56 Tryz.results56 rfl ?_
 have S0 := St.start w hH
 refine Wr ?_
 refine T_boxS S0 (fun _ _ => trivial) rfl rfl rfl rfl rfl rfl fun b1 w2 S3 => ?_
 refine T_boxS S3 (fun _ _ => trivial) rfl rfl rfl rfl rfl rfl fun b4 w5 S6 => ?_
 refine Pv ?_
 refine T_nil ?_
 refine W_seq ?_
 refine Wr ?_
 refine Fl 0 ?_
 refine T_loadS 0 0 S6 rfl rfl rfl rfl rfl rfl rfl rfl rfl rfl ?_
 iterate 2 refine Pv ?_
 refine T_part (t := 13) rfl (List.cons_ne_nil _ _) (fun h7' => ?_) (fun h7' => ?_)
 ·have h7 := of_decide_eq_true h7'
  iterate 3 refine No ?_
  refine Pv ?_
  refine T_nil ?_
  refine W_cond_true rfl ?_
  refine Wr ?_
  refine Pv ?_
  refine T_nil ?_
  refine W_ret ?_
  refine ⟨_, ⟨_, _, rfl, rfl, rfl⟩, ?_⟩
  exact ⟨by rw [Go.Au.vrf_no (Go.Au.okS_a (by omega))]; rfl, S6.below⟩
 have h7 := of_decide_eq_false h7'
 refine Ys ?_
 refine Fl 0 ?_
 refine Ys ?_
 refine T_loadS 0 0 S6 rfl rfl rfl rfl rfl rfl rfl rfl rfl rfl ?_
 refine Ys ?_
 iterate 2 refine Pv ?_
 refine T_nil ?_
 refine W_cond_dec rfl (fun h8 => ?_) (fun h8 => ?_)
 ·refine Wr ?_
  refine Pv ?_
  refine T_nil ?_
  refine W_ret ?_
  refine ⟨_, ⟨_, _, rfl, rfl, rfl⟩, ?_⟩
  exact ⟨by rw [Go.Au.vrf_no (Go.Au.okS_a (by omega))]; rfl, S6.below⟩
 refine W_skip ?_
 refine Wr ?_
 refine Pv ?_
 refine Fl 2 ?_
 refine T_loadS 0 2 S6 rfl rfl rfl rfl rfl rfl rfl rfl rfl rfl ?_
 refine Cs g_aumbry_aumbryref07_Recover ((recoverR_ok S6.le hv h1 (by omega) (by omega)).mono ?_)
 rintro e w10 ⟨rfl, hB9⟩
 have S11 := S6.call hB9
 refine ⟨_, rfl, trivial, ?_⟩
 iterate 3 refine Pv ?_
 refine T_allocS S11 (fun _ _ => trivial) rfl rfl rfl rfl rfl rfl rfl fun b12 w13 S14 => ?_
 refine T_storeFS 0 S14 (fun _ _ => trivial) rfl rfl rfl rfl rfl rfl rfl rfl rfl (hVs (Go.Au.pubH_len _)) (hVs (Go.Au.pubH_len _)) (one_hA _) fun w15 S16 => ?_
 refine Pv ?_
 refine T_nil ?_
 refine W_seq ?_
 refine Wr ?_
 iterate 2 refine Pv ?_
 refine T_nil ?_
 refine W_cond_false rfl ?_
 refine W_skip ?_
 refine Wr ?_
 have hp16 := Go.Au.pow16 (h := sh) (by omega) (by omega)
 refine Fl 0 ?_
 refine T_loadS 1 0 S16 rfl rfl rfl rfl rfl rfl rfl rfl rfl rfl ?_
 refine Pv ?_
 refine T_re (v' := .int .u64 sh) (congrArg (Value.int .u64) (by rw [IntKind.wrap_u64]; omega)) ?_
 refine T_shl rfl rfl rfl rfl rfl rfl (by omega) ?_
 refine T_re (v' := .int .i64 ((2 ^ sh.toNat : Nat) : Int)) (congrArg (Value.int .i64) (shlI (by omega) (by omega))) ?_
 refine Fl 1 ?_
 refine T_loadS 1 1 S16 rfl rfl rfl rfl rfl rfl rfl rfl rfl rfl ?_
 refine T_loadFS 0 S16 rfl rfl rfl rfl rfl rfl rfl rfl rfl (hVs (Go.Au.pubH_len _)) ?_
 refine Fl 3 ?_
 refine T_loadS 1 3 S16 rfl rfl rfl rfl rfl rfl rfl rfl rfl rfl ?_
 refine Cs g_aumbry_aumbryref07_Climb ((climbR_ok S16.le ((2 ^ sh.toNat : Nat) : Int) sl (Go.Au.pubH_len _) h2).mono ?_)
 rintro e w18 ⟨rfl, hB17⟩
 have S19 := S16.call hB17
 refine ⟨_, rfl, trivial, ?_⟩
 iterate 3 refine Pv ?_
 refine T_allocS S19 (fun _ _ => trivial) rfl rfl rfl rfl rfl rfl rfl fun b20 w21 S22 => ?_
 refine T_storeFS 0 S22 (fun _ _ => trivial) rfl rfl rfl rfl rfl rfl rfl rfl rfl (hVs (Go.Au.climbH_len _ _ (Go.Au.pubH_len _) _)) (hVs (Go.Au.climbH_len _ _ (Go.Au.pubH_len _) _)) (one_hA _) fun w23 S24 => ?_
 refine Pv ?_
 refine T_nil ?_
 refine W_seq ?_
 obtain ⟨G26, hl27, S25, r28⟩ := S24.stillBlk 3 rfl
 refine W_plan (planF Tryz.prog G26 [47]) rfl (by kernel_rfl) S25.le ?_
 have S29 := S25.drew
 iterate 2 refine Pv ?_
 refine T_part (t := 41) rfl (List.cons_ne_nil _ _) (fun h30' => ?_) (fun h30' => ?_)
 ·have h30 := h30'
  refine Ys ?_
  refine Fl 0 ?_
  refine Ys ?_
  refine T_loadS 2 0 S29 rfl rfl rfl rfl rfl rfl rfl rfl rfl rfl ?_
  refine Ys ?_
  refine T_loadFS 0 S29 rfl rfl rfl rfl rfl rfl rfl rfl rfl (hVs (Go.Au.climbH_len _ _ (Go.Au.pubH_len _) _)) ?_
  refine Ys ?_
  have hpb := printT_bd sh (Go.Au.climbH_len ((2 ^ sh.toNat : Nat) : Int) sl (Go.Au.pubH_len (Go.Au.ends m v 67)) p)
  refine Cs g_aumbry_aumbryref07_printText ((printTR_ok S29.le sh (by omega) (Go.Au.climbH_len _ _ (Go.Au.pubH_len _) _)).mono ?_)
  rintro e w36 ⟨a31, c32, hc33, rfl, ho34, hB35⟩
  have S37 := S29.own hB35 ho34
  refine ⟨_, rfl, (((Hp.le.refl _)).trans S37.le), ?_⟩
  refine Ys ?_
  obtain ⟨G39, hl40, S38, r41⟩ := S37.stillRow 0 rfl
  refine Cs g_aumbry_aumbryref01_Sum ((sumR_ok S38.le r41 (by omega)).mono ?_)
  rintro e w43 ⟨rfl, hB42⟩
  have S44 := S38.call hB42
  refine ⟨_, rfl, ((hl40).trans S44.le), ?_⟩
  refine Ys ?_
  refine T_loadGAP _ (fun _ h => h) (still_cells r28) rfl rfl rfl rfl rfl rfl rfl rfl (hVs hf) ?_
  refine Ys ?_
  refine T_eqB (xs := Go.Sha.sha (Go.Au.printT sh (Go.Au.climbH ((2 ^ sh.toNat : Nat) : Int) sl (Go.Au.pubH (Go.Au.ends m v 67)) p))) (ys := fp) rfl rfl rfl rfl rfl rfl rfl rfl rfl rfl rfl (Go.Sha.sha_len _) hf ?_
  iterate 2 refine Pv ?_
  refine T_nil ?_
  refine W_ret ?_
  refine ⟨_, ⟨_, _, rfl, rfl, rfl⟩, ?_⟩
  have ho := Go.Au.okS_c (h := sh) (l := sl) (v := v) (p := p) ⟨by omega, by omega⟩ h67
  rw [h30] at ho
  exact ⟨by rw [Go.Au.vrf_yes ho, Go.Au.climbS_c ⟨by omega, by omega⟩ h67]; rfl, S44.below⟩
 have h30 := h30'
 iterate 7 refine No ?_
 iterate 2 refine Pv ?_
 refine T_nil ?_
 refine W_ret ?_
 refine ⟨_, ⟨_, _, rfl, rfl, rfl⟩, ?_⟩
 exact ⟨by rw [Go.Au.vrf_no (by rw [Go.Au.okS_c ⟨by omega, by omega⟩ h67]; exact h30)]; rfl, S29.below⟩


theorem verifyR_ok {H : Hp} {w : World} (hH : H.le (hw w)) {fp : List UInt8} (hf : fp.length = 32) (sh sl : Int) {v p : List (List UInt8)} {a1 a2 : Option Addr} {n1 n2 c1 c2 : Nat} (h1 : RdH H (.slice a1 n1 c1) 32 v) (h2 : RdH H (.slice a2 n2 c2) 32 p) {m : List UInt8} {aa1 : Option Addr} {nn1 cc1 : Nat} (hv : Rd H (.slice aa1 nn1 cc1) nn1 1 (m.map bV)) (hml : m.length < 1000) :
  Calls Tryz.prog 56 #[hV fp, .slice aa1 nn1 cc1, .agg #[.int .i64 sh, .int .i64 sl, .slice a1 n1 c1, .slice a2 n2 c2]] w fun e w' => e = .returned (.bool (Go.Au.vrf fp m sh sl v p)) ∧ Below w.heap.size w w' := by
 by_cases h67 : v.length = 67
 ·exact verifyR_a hH hf sh sl h1 h2 hv hml h67
 ·exact verifyR_b hH hf sh sl h1 h2 hv hml h67
end Go.Proofs.YtmjmjjkigblbgaaGreatDoor
