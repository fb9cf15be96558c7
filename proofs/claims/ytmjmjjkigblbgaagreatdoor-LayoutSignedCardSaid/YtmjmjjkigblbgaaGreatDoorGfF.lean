/- Blocks of a piece, leaves. -/
import Derived.Test.YtmjmjjkigblbgaaGreatDoorGfE
import Derived.Test.YtmjmjjkigblbgaaGreatDoorLayF
set_option linter.unusedVariables false
set_option linter.unusedSimpArgs false
set_option maxRecDepth 8192
namespace Go.Proofs.YtmjmjjkigblbgaaGreatDoor
open Go Go.F Go.RowKit

theorem g_aumbry_aumbryref18_Blocks : goFn Tryz.prog 43 = true := by kernel_rfl
theorem rblocks_ok {H : Hp} {w : World} (hH : H.le (hw w)) {l : List UInt8} {aa0 : Option Addr} {nn0 cc0 : Nat} (hv : Rd H (.slice aa0 nn0 cc0) nn0 1 (l.map bV)) (k n : Nat) (hl : l.length ≤ 100000) (hk : 1 ≤ k ∧ k ≤ 5) (hn : k ≤ n ∧ n ≤ 16) :
  Calls Tryz.prog 43 #[.slice aa0 nn0 cc0, .int .i64 ((k : Nat) : Int), .int .i64 ((n : Nat) : Int)] w fun e w' => ∃ a c q m D, e = .returned (.slice a n c) ∧ RdL (F.ext H w.heap.size w') (.slice a n c) D ∧ D.length = n ∧ (∀ x ∈ D, x.length = q) ∧ k * q = l.length + m ∧ m < k ∧ Below w.heap.size w w' := by
 obtain rfl : nn0 = l.length := hv.lenB
 have hvcap : l.length ≤ cc0 := hv.capOf
 refine enter3 _ Tryz.func43 rfl Tryz.ntmps43 Tryz.results43 rfl ?_
 have S0 := St.start w hH
 refine Wr ?_
 refine Pv ?_
 refine T_nil ?_
 refine Wr ?_
 iterate 3 refine Pv ?_
 refine Cs g_aumbry_aumbryref04_Encode ((rencode_ok S0.le hv k n (by omega) (by omega) (by omega)).mono ?_)
 rintro e w5 ⟨a1, c2, q, m, D, rfl, r3, hDl, hDx, hqk, hm, hB4⟩
 obtain ⟨G7, eG9⟩ : ∃ G, G = F.ext H w.heap.size w5 := ⟨_, rfl⟩
 obtain ⟨hl8, S6⟩ := S0.ext hB4
 rw [← eG9] at hl8 S6 r3
 refine ⟨_, rfl, trivial, ?_⟩
 refine Pv ?_
 refine T_nil ?_
 refine W_ret ?_
 refine ⟨_, ⟨_, _, rfl, rfl, rfl⟩, ?_⟩
 exact ⟨_, _, q, m, D, rfl, (r3).mono S6.fin, hDl, hDx, hqk, hm, S6.below⟩


theorem bleavesR_ok {H : Hp} {w : World} (hH : H.le (hw w)) {B : List (List UInt8)} {aa0 : Option Addr} {nn0 cc0 : Nat} (hv : RdL H (.slice aa0 nn0 cc0) B) (hB : B.length ≤ 100) (HX1 : ∀ x ∈ B, x.length < 1000) :
  Calls Tryz.prog 44 #[.slice aa0 nn0 cc0] w fun e w' => ∃ a c, B.length ≤ c ∧ e = .returned (.slice a B.length c) ∧ rowZ w' w.heap.size 27 32 (.slice a B.length c) B.length (hcells (Go.Au.leavesH B B.length)) ∧ Below w.heap.size w w' := by
 obtain rfl : nn0 = B.length := hv.len
 refine enter1 _ Tryz.func44 rfl Tryz.ntmps44 Tryz.results44 rfl ?_
 have S0 := St.start w hH
 refine Wr ?_
 refine Pv ?_
 refine T_nil ?_
 refine Wr ?_
 refine Pv ?_
 refine Cs g_aumbry_aumbryref13_leaves ((leavesR_ok S0.le hv (by omega) HX1).mono ?_)
 rintro e w6 ⟨a1, c2, hc3, rfl, ho4, hB5⟩
 have S7 := S0.own hB5 ho4
 refine ⟨_, rfl, trivial, ?_⟩
 refine Pv ?_
 refine T_nil ?_
 refine W_ret ?_
 refine ⟨_, ⟨_, _, rfl, rfl, rfl⟩, ?_⟩
 exact ⟨_, _, hc3, rfl, S7.row 0 rfl, S7.below⟩

end Go.Proofs.YtmjmjjkigblbgaaGreatDoor
