/- Helps of the statements: cuts, copies, comparisons. -/
import Derived.Test.YtmjmjjkigblbgaaGreatDoorText
set_option linter.unusedVariables false
set_option linter.unusedSimpArgs false
set_option maxRecDepth 8192
namespace Go.Proofs.YtmjmjjkigblbgaaGreatDoor
open Go Go.F Go.RowKit

theorem cutB_ok {H : Hp} {w : World} (hH : H.le (hw w)) {l : List UInt8} {aa0 : Option Addr} {nn0 cc0 : Nat} (hv : Rd H (.slice aa0 nn0 cc0) nn0 1 (l.map bV)) (n : Nat) :
  Calls Tryz.prog 7 #[.slice aa0 nn0 cc0, .int .i64 ((n : Nat) : Int)] w fun e w' => ∃ a c, (l.take n).length ≤ c ∧ e = .returned (.slice a (l.take n).length c) ∧ Rd H (.slice a (l.take n).length c) (l.take n).length 1 ((l.take n).map bV) ∧ Below w.heap.size w w' := by
 obtain rfl : nn0 = l.length := hv.lenB
 have hvcap : l.length ≤ cc0 := hv.capOf
 refine enter2 _ Tryz.func7 rfl Tryz.ntmps7 Tryz.results7 rfl ?_
 have S0 := St.start w hH
 refine Wr ?_
 refine Pv ?_
 refine T_nil ?_
 refine Wr ?_
 iterate 5 refine Pv ?_
 refine T_sliceR 0 (min l.length n) hv rfl rfl rfl rfl rfl rfl rfl rfl rfl rfl (bound_of (by omega)) rfl (by omega) (by omega) fun a1 c2 hc3 r4 => ?_
 have r5 := Rd.cutB r4
 have r6 : Rd H (.slice a1 ((min l.length n) - 0) c2) ((min l.length n) - 0) 1 ((l.take n).map bV) := by rw [← take_min l n]; exact r5
 refine Pv ?_
 refine T_nil ?_
 refine W_ret ?_
 refine ⟨_, ⟨_, _, rfl, rfl, rfl⟩, ?_⟩
 exact rdB_end rfl hc3 r6 S0.below


theorem cutH_ok {H : Hp} {w : World} (hH : H.le (hw w)) {l : List (List UInt8)} {aa0 : Option Addr} {nn0 cc0 : Nat} (hv : RdH H (.slice aa0 nn0 cc0) 32 l) (n : Nat) :
  Calls Tryz.prog 57 #[.slice aa0 nn0 cc0, .int .i64 ((n : Nat) : Int)] w fun e w' => ∃ a c, (l.take n).length ≤ c ∧ e = .returned (.slice a (l.take n).length c) ∧ RdH H (.slice a (l.take n).length c) 32 (l.take n) ∧ Below w.heap.size w w' := by
 obtain rfl : nn0 = l.length := hv.len
 have hvcap : l.length ≤ cc0 := hv.2.capOf
 refine enter2 _ Tryz.func57 rfl Tryz.ntmps57 Tryz.results57 rfl ?_
 have S0 := St.start w hH
 refine Wr ?_
 refine Pv ?_
 refine T_nil ?_
 refine Wr ?_
 iterate 5 refine Pv ?_
 refine T_sliceR 0 (min l.length n) hv.2 rfl rfl rfl rfl rfl rfl rfl rfl rfl rfl (bound_of (by omega)) rfl (by omega) (by omega) fun a1 c2 hc3 r4 => ?_
 have r5 := RdH.cut (lo := 0) hv.1 (by first | (simp only [List.length_take, List.length_drop]; omega) | (have hcl := List.length_take (i := ((min l.length n) - 0)) (l := l.drop 0); have hcd := List.length_drop (i := 0) (l := l); omega)) r4
 have r6 : RdH H (.slice a1 ((min l.length n) - 0) c2) 32 (l.take n) := by rw [← take_min l n]; exact r5
 refine Pv ?_
 refine T_nil ?_
 refine W_ret ?_
 refine ⟨_, ⟨_, _, rfl, rfl, rfl⟩, ?_⟩
 exact rdH_end rfl hc3 r6 S0.below


end Go.Proofs.YtmjmjjkigblbgaaGreatDoor
