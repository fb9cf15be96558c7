/- Helps of the statements: cuts, copies, comparisons. -/
import Derived.Test.YtmjmjjkigblbgaaGreatDoorText
set_option linter.unusedVariables false
set_option linter.unusedSimpArgs false
set_option maxRecDepth 8192
namespace Go.Proofs.YtmjmjjkigblbgaaGreatDoor
open Go Go.F Go.RowKit

theorem cutB_ok {H : Hp} {w : World} (hH : H.le (hw w)) {l : List UInt8} {aa0 : Option Addr} {nn0 cc0 : Nat} (hv : Rd H (.slice aa0 nn0 cc0) nn0 1 (l.map bV)) (n : Nat) :
  Calls Tryz.prog 7 #[.slice aa0 nn0 cc0, .int .i64 ((n : Nat) : Int)] w fun e w' => ∃ a c, (l.take n).length ≤ c ∧ e = .returned (.slice a (l.take n).length c) ∧ Rd H (.slice a (l.take n).length c) (l.take n).length 1 ((l.take n).map bV) ∧ Below w.heap.size w w' := by
 obtain rfl : nn0 = l.length := hv.lenB
 have hvcap : l.length ≤ cc0 := hv.capOf
 refine enter2 _ Tryz.func7 rfl Tryz.ntmps7 Tryz.results7 rfl ?_
 have S0 := St.start w hH
 refine Wr ?_
 refine Pv ?_
 refine T_nil ?_
 refine Wr ?_
 iterate 5 refine Pv ?_
 refine T_sliceR 0 (min l.length n) hv rfl rfl rfl rfl rfl rfl rfl rfl rfl rfl (bound_of (by omega)) rfl (by omega) (by omega) fun a1 c2 hc3 r4 => ?_
 have r5 := Rd.cutB r4
 have r6 : Rd H (.slice a1 ((min l.length n) - 0) c2) ((min l.length n) - 0) 1 ((l.take n).map bV) := by rw [← take_min l n]; exact r5
 refine Pv ?_
 refine T_nil ?_
 refine W_ret ?_
 refine ⟨_, ⟨_, _, rfl, rfl, rfl⟩, ?_⟩
 exact rdB_end rfl hc3 r6 S0.below


theorem copyB_ok {H : Hp} {w : World} (hH : H.le (hw w)) {l : List UInt8} {aa0 : Option Addr} {nn0 cc0 : Nat} (hv : Rd H (.slice aa0 nn0 cc0) nn0 1 (l.map bV)) (hb : l.length ≤ 1000000) :
  Calls Tryz.prog 14 #[.slice aa0 nn0 cc0] w fun e w' => ∃ a c, l.length ≤ c ∧ e = .returned (.slice a l.length c) ∧ rowZ w' w.heap.size 5 1 (.slice a l.length c) l.length (l.map bV) ∧ Below w.heap.size w w' := by
 obtain rfl : nn0 = l.length := hv.lenB
 have hvcap : l.length ≤ cc0 := hv.capOf
 refine enter1 _ Tryz.func14 rfl Tryz.ntmps14 Tryz.results14 rfl ?_
 have S0 := St.start w hH
 refine Wr ?_
 refine Pv ?_
 refine T_nil ?_
 refine Wr ?_
 refine Pv ?_
 have S1 := S0.nilRow 5 1
 refine T_appendS 0 l.length (l.map bV) S1 (fun _ _ => trivial) rfl rfl rfl rfl rfl rfl rfl rfl rfl rfl rfl rfl rfl rfl (hv.mono S1.le) (one_bV _) (by first | rfl | (simp; done) | (simp; omega) | omega) (by simp) (by unfold maxLen; omega) (by show _ * 1 ≤ _; omega) fun a2 c3 w4 hc5 S6 => ?_
 refine Pv ?_
 refine T_nil ?_
 refine W_ret ?_
 refine ⟨_, ⟨_, _, rfl, rfl, rfl⟩, ?_⟩
 exact ⟨_, _, hc5, rfl, S6.row 0 rfl, S6.below⟩


theorem copyH_ok {H : Hp} {w : World} (hH : H.le (hw w)) {l : List (List UInt8)} {aa0 : Option Addr} {nn0 cc0 : Nat} (hv : RdH H (.slice aa0 nn0 cc0) 32 l) (hb : l.length ≤ 1000000) :
  Calls Tryz.prog 18 #[.slice aa0 nn0 cc0] w fun e w' => ∃ a c, l.length ≤ c ∧ e = .returned (.slice a l.length c) ∧ rowZ w' w.heap.size 27 32 (.slice a l.length c) l.length (hcells l) ∧ Below w.heap.size w w' := by
 obtain rfl : nn0 = l.length := hv.len
 have hvcap : l.length ≤ cc0 := hv.2.capOf
 refine enter1 _ Tryz.func18 rfl Tryz.ntmps18 Tryz.results18 rfl ?_
 have S0 := St.start w hH
 refine Wr ?_
 refine Pv ?_
 refine T_nil ?_
 refine Wr ?_
 refine Pv ?_
 have S1 := S0.nilRow 27 32
 refine T_appendS 0 l.length (hcells l) S1 (fun _ _ => trivial) rfl rfl rfl rfl rfl rfl rfl rfl rfl rfl rfl rfl rfl rfl (hv.2.mono S1.le) (one_hcells _) (by first | rfl | (simp; done) | (simp; omega) | omega) (by simp [hcells_append, hcells]) (by unfold maxLen; omega) (by show _ * 32 ≤ _; omega) fun a2 c3 w4 hc5 S6 => ?_
 refine Pv ?_
 refine T_nil ?_
 refine W_ret ?_
 refine ⟨_, ⟨_, _, rfl, rfl, rfl⟩, ?_⟩
 exact ⟨_, _, hc5, rfl, S6.row 0 rfl, S6.below⟩


theorem withinN_ok {H : Hp} {w : World} (_ : H.le (hw w)) (v n : Int) (hn : 1 ≤ n ∧ n ≤ 1000000000) :
  Calls Tryz.prog 9 #[.int .i64 v, .int .i64 n] w fun e w' => e = .returned (.int .i64 (v % n)) ∧ Below w.heap.size w w' := within_ok v n w hn
end Go.Proofs.YtmjmjjkigblbgaaGreatDoor
