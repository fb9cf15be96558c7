/- Whether shares are right. -/
import Derived.Test.YtmjmjjkigblbgaaGreatDoorLayZ
set_option linter.unusedVariables false
set_option linter.unusedSimpArgs false
set_option maxRecDepth 8192
namespace Go.Proofs.YtmjmjjkigblbgaaGreatDoor
open Go Go.F Go.RowKit

theorem nb_f {b : Bool} (h : (!b) = false) : b = true := by cases b <;> simp_all
theorem checkR_ok {H : Hp} {w : World} (hH : H.le (hw w)) {r : List UInt8} (hr : r.length = 32) (n i : Int) {x : List UInt8} (hx : x.length = 32) {p : List (List UInt8)} {aa4 : Option Addr} {nn4 cc4 : Nat} (hp : RdH H (.slice aa4 nn4 cc4) 32 p) :
  Calls Tryz.prog 36 #[hV r, .int .i64 n, .int .i64 i, hV x, .slice aa4 nn4 cc4] w fun e w' => e = .returned (.bool (Go.Au.okW n i p.length && decide (Go.Au.climbH n i x p = r))) ∧ Below w.heap.size w w' := by
 obtain rfl : nn4 = p.length := hp.len
 have hpcap : p.length ≤ cc4 := hp.2.capOf
 refine enter5 _ Tryz.func36 rfl Tryz.ntmps36 Tryz.results36 rfl ?_
 have S0 := St.start w hH
 refine Wr ?_
 refine T_boxS S0 (fun _ _ => trivial) rfl rfl rfl rfl rfl rfl fun b1 w2 S3 => ?_
 refine T_boxS S3 (fun _ _ => trivial) rfl rfl rfl rfl rfl rfl fun b4 w5 S6 => ?_
 refine Pv ?_
 refine T_nil ?_
 refine Wr ?_
 iterate 2 refine Pv ?_
 refine T_loadFS 0 S6 rfl rfl rfl rfl rfl rfl rfl rfl rfl (hVs hx) ?_
 refine Pv ?_
 refine Cs g_aumbry_aumbryref07_Climb ((climbR_ok S6.le n i hx hp).mono ?_)
 rintro e w8 ⟨rfl, hB7⟩
 have S9 := S6.call hB7
 refine ⟨_, rfl, trivial, ?_⟩
 iterate 3 refine Pv ?_
 refine T_allocS S9 (fun _ _ => trivial) rfl rfl rfl rfl rfl rfl rfl fun b10 w11 S12 => ?_
 refine T_storeFS 0 S12 (fun _ _ => trivial) rfl rfl rfl rfl rfl rfl rfl rfl rfl (hVs (Go.Au.climbH_len _ _ hx _)) (hVs (Go.Au.climbH_len _ _ hx _)) (one_hA _) fun w13 S14 => ?_
 refine Pv ?_
 refine T_nil ?_
 refine Wr ?_
 iterate 2 refine Pv ?_
 refine T_part (t := 22) rfl (List.cons_ne_nil _ _) (fun h15' => ?_) (fun h15' => ?_)
 ·have h15 := h15'
  refine Ys ?_
  refine T_loadFS 0 S14 rfl rfl rfl rfl rfl rfl rfl rfl rfl (hVs (Go.Au.climbH_len _ _ hx _)) ?_
  refine Ys ?_
  refine T_loadFS 2 S14 rfl rfl rfl rfl rfl rfl rfl rfl rfl (hVs hr) ?_
  refine Ys ?_
  refine T_eqB (xs := Go.Au.climbH n i x p) (ys := r) rfl rfl rfl rfl rfl rfl rfl rfl rfl rfl rfl (Go.Au.climbH_len _ _ hx _) hr ?_
  iterate 2 refine Pv ?_
  refine T_nil ?_
  refine W_ret ?_
  refine ⟨_, ⟨_, _, rfl, rfl, rfl⟩, ?_⟩
  exact ⟨by rw [h15, Bool.true_and]; rfl, S14.below⟩
 have h15 := h15'
 iterate 3 refine No ?_
 iterate 2 refine Pv ?_
 refine T_nil ?_
 refine W_ret ?_
 refine ⟨_, ⟨_, _, rfl, rfl, rfl⟩, ?_⟩
 exact ⟨by rw [h15]; rfl, S14.below⟩


end Go.Proofs.YtmjmjjkigblbgaaGreatDoor
