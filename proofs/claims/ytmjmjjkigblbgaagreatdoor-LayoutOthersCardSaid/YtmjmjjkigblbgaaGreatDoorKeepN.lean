/- Helps of the statements: cuts, copies, comparisons. -/
import Derived.Test.YtmjmjjkigblbgaaGreatDoorText
set_option linter.unusedVariables false
set_option linter.unusedSimpArgs false
set_option maxRecDepth 8192
namespace Go.Proofs.YtmjmjjkigblbgaaGreatDoor
open Go Go.F Go.RowKit

theorem cutB_ok {H : Hp} {w : World} (hH : H.le (hw w)) {l : List UInt8} {aa0 : Option Addr} {nn0 cc0 : Nat} (hv : Rd H (.slice aa0 nn0 cc0) nn0 1 (l.map bV)) (n : Nat) :
  Calls Tryz.prog 7 #[.slice aa0 nn0 cc0, .int .i64 ((n : Nat) : Int)] w fun e w' => ∃ a c, (l.take n).length ≤ c ∧ e = .returned (.slice a (l.take n).length c) ∧ Rd H (.slice a (l.take n).length c) (l.take n).length 1 ((l.take n).map bV) ∧ Below w.heap.size w w' := by
 obtain rfl : nn0 = l.length := hv.lenB
 have hvcap : l.length ≤ cc0 := hv.capOf
 refine enter2 _ Tryz.func7 rfl Tryz.ntmps7 Tryz.results7 rfl ?_
 have S0 := St.start w hH
 refine Wr (Pv (Nr ?_))
 iterate 5 refine Pv ?_
 refine T_sliceR 0 (min l.length n) hv rfl rfl rfl rfl rfl rfl rfl rfl rfl rfl (bound_of (by omega)) rfl (by omega) (by omega) fun a1 c2 hc3 r4 => ?_
 have r5 := Rd.cutB r4
 have r6 : Rd H (.slice a1 ((min l.length n) - 0) c2) ((min l.length n) - 0) 1 ((l.take n).map bV) := by rw [← take_min l n]; exact r5
 refine Pv (T_nil (W_ret ?_))
 refine ⟨_, ⟨_, _, rfl, rfl, rfl⟩, ?_⟩
 exact rdB_end rfl hc3 r6 S0.below


theorem withinN_ok {H : Hp} {w : World} (_ : H.le (hw w)) (v n : Int) (hn : 1 ≤ n ∧ n ≤ 1000000000) :
  Calls Tryz.prog 9 #[.int .i64 v, .int .i64 n] w fun e w' => e = .returned (.int .i64 (v % n)) ∧ Below w.heap.size w w' := within_ok v n w hn
end Go.Proofs.YtmjmjjkigblbgaaGreatDoor
