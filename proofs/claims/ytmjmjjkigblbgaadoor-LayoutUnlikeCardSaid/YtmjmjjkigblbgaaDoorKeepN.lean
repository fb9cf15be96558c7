/- Helps of the statements: cuts, copies, comparisons. -/
import Derived.Test.YtmjmjjkigblbgaaDoorText
set_option linter.unusedVariables false
set_option linter.unusedSimpArgs false
set_option maxRecDepth 8192
namespace Go.Proofs.YtmjmjjkigblbgaaDoor
open Go Go.F Go.RowKit

theorem cutB_ok {H : Hp} {w : World} (hH : H.le (hw w)) {l : List UInt8} {aa0 : Option Addr} {nn0 cc0 : Nat} (hv : Rd H (.slice aa0 nn0 cc0) nn0 1 (l.map bV)) (n : Nat) :
  Calls Tryd.prog 9 #[.slice aa0 nn0 cc0, .int .i64 ((n : Nat) : Int)] w fun e w' => ∃ a c, (l.take n).length ≤ c ∧ e = .returned (.slice a (l.take n).length c) ∧ Rd H (.slice a (l.take n).length c) (l.take n).length 1 ((l.take n).map bV) ∧ Below w.heap.size w w' := by
 obtain rfl : nn0 = l.length := hv.lenB
 have hvcap : l.length ≤ cc0 := hv.capOf
 refine enter2 _ Tryd.func9 rfl Tryd.ntmps9 Tryd.results9 rfl ?_
 have S0 := St.start w hH
 refine Wr (Pv (Nr ?_))
 iterate 5 refine Pv ?_
 refine T_sliceR 0 (min l.length n) hv rfl rfl rfl rfl rfl rfl rfl rfl rfl rfl (bound_of (by omega)) rfl (by omega) (by omega) fun a1 c2 hc3 r4 => ?_
 have r5 := Rd.cutB r4
 have r6 : Rd H (.slice a1 ((min l.length n) - 0) c2) ((min l.length n) - 0) 1 ((l.take n).map bV) := by rw [← take_min l n]; exact r5
 refine Pv (T_nil (W_ret ?_))
 refine ⟨_, ⟨_, _, rfl, rfl, rfl⟩, ?_⟩
 exact rdB_end rfl hc3 r6 S0.below


theorem sameB_ok {H : Hp} {w : World} (hH : H.le (hw w)) {l : List UInt8} {aa0 : Option Addr} {nn0 cc0 : Nat} (hv : Rd H (.slice aa0 nn0 cc0) nn0 1 (l.map bV)) {m : List UInt8} {aa1 : Option Addr} {nn1 cc1 : Nat} (hu : Rd H (.slice aa1 nn1 cc1) nn1 1 (m.map bV)) (hb : l.length ≤ 9223372036854775806) :
  Calls Tryd.prog 13 #[.slice aa0 nn0 cc0, .slice aa1 nn1 cc1] w fun e w' => e = .returned (.bool (decide (l = m))) ∧ Below w.heap.size w w' := by
 obtain rfl : nn0 = l.length := hv.lenB
 have hvcap : l.length ≤ cc0 := hv.capOf
 obtain rfl : nn1 = m.length := hu.lenB
 have hucap : m.length ≤ cc1 := hu.capOf
 refine enter2 _ Tryd.func13 rfl Tryd.ntmps13 Tryd.results13 rfl ?_
 have S0 := St.start w hH
 refine Wr (Pv (T_nil (W_seq (Wr ?_))))
 iterate 5 refine Pv ?_
 refine T_nil (W_cond_not rfl (fun h1 => ?_) (fun h1 => ?_))
 ·refine Wr (Pv (T_nil (W_ret ?_)))
  refine ⟨_, ⟨_, _, rfl, rfl, rfl⟩, ?_⟩
  exact ⟨congrArg (fun z => Ending.returned (Value.bool z)) (decide_eq_false (fun e => h1 (by rw [e]))).symm, S0.below⟩
 refine W_skip (W_seq (Wr (Pv (T_nil (W_block ?_)))))
 refine W_loop (fun M ρ w' => ∃ (k : Nat) (G2 : Hp), M = l.length - k ∧ k ≤ l.length ∧ l.take k = m.take k ∧ ρ = [(0, .slice aa0 l.length cc0), (1, .slice aa1 m.length cc1), (5, .int .i64 (k : Int))] ∧ H.le G2 ∧ St w H G2 [] w')
  (l.length - 0) [(0, .slice aa0 l.length cc0), (1, .slice aa1 m.length cc1), (5, .int .i64 ((0 : Nat) : Int))] ⟨rfl, rfl, ciI, trivial⟩ ⟨0, H, rfl, (by omega), (by simp), rfl, Hp.le.refl _, S0⟩ ?_
 rintro M ρ w4 ⟨k, G2, rfl, hp6, hq, rfl, hl3, S5⟩
 refine W_seq (Wr ?_)
 iterate 4 refine Pv ?_
 refine T_nil (Aa (fun h8 => ?_) (fun h8 => ?_))
 ·refine W_skip (W_seq (W_block (W_seq (W_draw rfl (by kernel_rfl) ?_))))
  have S9 := S5.drew
  iterate 2 refine Pv ?_
  refine Ah k (hv.mono hl3) fun b10 o11 hc12 => ?_
  have hc13 := hc12 0 (bV (l.getD k 0)) (at_b l k (by omega))
  simp only [Nat.add_zero] at hc13
  refine Ac S9 hc13 ?_
  iterate 2 refine Pv ?_
  refine Ah k (hu.mono hl3) fun b14 o15 hc16 => ?_
  have hc17 := hc16 0 (bV (m.getD k 0)) (at_b m k (by omega))
  simp only [Nat.add_zero] at hc17
  refine Ac S9 hc17 ?_
  refine Pv (T_nil ?_)
  refine W_cond_not rfl (fun h18 => ?_) (fun h18 => ?_)
  ·refine Wr (Pv (T_nil (W_ret ?_)))
   refine ⟨_, ⟨_, _, rfl, rfl, rfl⟩, ?_⟩
   exact ⟨congrArg (fun z => Ending.returned (Value.bool z)) (decide_eq_false (getD_ne (d := 0) (fun e => h18 (by rw [e])))).symm, S9.below⟩
  refine W_skip (W_region (Pv ?_))
  refine Ar ?_
  refine Pv (T_nil ?_)
  have HEQ : l.getD k 0 = m.getD k 0 := by exact bV_inj.1 h18
  exact ⟨l.length - (k + 1), [(0, .slice aa0 l.length cc0), (1, .slice aa1 m.length cc1), (5, .int .i64 ((k + 1 : Nat) : Int))], by omega, ⟨rfl, rfl, ciI, trivial⟩, k + 1, G2, rfl, (by omega), (by exact take_ext (d := 0) (by omega) (by omega) hq HEQ), rfl, hl3, S9⟩
 refine W_exit (Wr (Pv (T_nil (W_ret ?_))))
 refine ⟨_, ⟨_, _, rfl, rfl, rfl⟩, ?_⟩
 have hk : k = l.length := by omega
 have heq : l = m := by rw [hk, List.take_length, List.take_of_length_le (by omega)] at hq; exact hq
 exact ⟨congrArg (fun z => Ending.returned (Value.bool z)) (decide_eq_true heq).symm, S5.below⟩


theorem sameH_ok {H : Hp} {w : World} (hH : H.le (hw w)) {l : List (List UInt8)} {aa0 : Option Addr} {nn0 cc0 : Nat} (hv : RdH H (.slice aa0 nn0 cc0) 32 l) {m : List (List UInt8)} {aa1 : Option Addr} {nn1 cc1 : Nat} (hu : RdH H (.slice aa1 nn1 cc1) 32 m) (hb : l.length ≤ 9223372036854775806) :
  Calls Tryd.prog 57 #[.slice aa0 nn0 cc0, .slice aa1 nn1 cc1] w fun e w' => e = .returned (.bool (decide (l = m))) ∧ Below w.heap.size w w' := by
 obtain rfl : nn0 = l.length := hv.len
 have hvcap : l.length ≤ cc0 := hv.2.capOf
 obtain rfl : nn1 = m.length := hu.len
 have hucap : m.length ≤ cc1 := hu.2.capOf
 refine enter2 _ Tryd.func57 rfl Tryd.ntmps57 Tryd.results57 rfl ?_
 have S0 := St.start w hH
 refine Wr (Pv (T_nil (W_seq (Wr ?_))))
 iterate 5 refine Pv ?_
 refine T_nil (W_cond_not rfl (fun h1 => ?_) (fun h1 => ?_))
 ·refine Wr (Pv (T_nil (W_ret ?_)))
  refine ⟨_, ⟨_, _, rfl, rfl, rfl⟩, ?_⟩
  exact ⟨congrArg (fun z => Ending.returned (Value.bool z)) (decide_eq_false (fun e => h1 (by rw [e]))).symm, S0.below⟩
 refine W_skip (W_seq (Wr (Pv (T_nil (W_block ?_)))))
 refine W_loop (fun M ρ w' => ∃ (k : Nat) (G2 : Hp), M = l.length - k ∧ k ≤ l.length ∧ l.take k = m.take k ∧ ρ = [(0, .slice aa0 l.length cc0), (1, .slice aa1 m.length cc1), (5, .int .i64 (k : Int))] ∧ H.le G2 ∧ St w H G2 [] w')
  (l.length - 0) [(0, .slice aa0 l.length cc0), (1, .slice aa1 m.length cc1), (5, .int .i64 ((0 : Nat) : Int))] ⟨rfl, rfl, ciI, trivial⟩ ⟨0, H, rfl, (by omega), (by simp), rfl, Hp.le.refl _, S0⟩ ?_
 rintro M ρ w4 ⟨k, G2, rfl, hp6, hq, rfl, hl3, S5⟩
 refine W_seq (Wr ?_)
 iterate 4 refine Pv ?_
 refine T_nil (Aa (fun h8 => ?_) (fun h8 => ?_))
 ·refine W_skip (W_seq (W_block (W_seq (W_draw rfl (by kernel_rfl) ?_))))
  have S9 := S5.drew
  iterate 2 refine Pv ?_
  refine Ah k (hv.mono hl3).2 fun b10 o11 hc12 => ?_
  have hc13 := cells_h (hv.mono hl3).1 k (by omega) hc12
  have hl14 := len_h (hv.mono hl3).1 k (by omega)
  refine T_loadGA _ S9 hc13 rfl rfl rfl rfl rfl rfl rfl rfl (hVs hl14) ?_
  iterate 2 refine Pv ?_
  refine Ah k (hu.mono hl3).2 fun b15 o16 hc17 => ?_
  have hc18 := cells_h (hu.mono hl3).1 k (by omega) hc17
  have hl19 := len_h (hu.mono hl3).1 k (by omega)
  refine T_loadGA _ S9 hc18 rfl rfl rfl rfl rfl rfl rfl rfl (hVs hl19) (T_neB (xs := l.getD k []) (ys := m.getD k []) rfl rfl rfl rfl rfl rfl rfl rfl rfl rfl rfl hl14 hl19 (T_nil (W_cond_not rfl (fun h20 => ?_) (fun h20 => ?_))))
  ·refine Wr (Pv (T_nil (W_ret ?_)))
   refine ⟨_, ⟨_, _, rfl, rfl, rfl⟩, ?_⟩
   exact ⟨congrArg (fun z => Ending.returned (Value.bool z)) (decide_eq_false (getD_ne (d := []) h20)).symm, S9.below⟩
  refine W_skip (W_region (Pv ?_))
  refine Ar ?_
  refine Pv (T_nil ?_)
  have HEQ : l.getD k [] = m.getD k [] := by exact h20
  exact ⟨l.length - (k + 1), [(0, .slice aa0 l.length cc0), (1, .slice aa1 m.length cc1), (5, .int .i64 ((k + 1 : Nat) : Int))], by omega, ⟨rfl, rfl, ciI, trivial⟩, k + 1, G2, rfl, (by omega), (by exact take_ext (d := []) (by omega) (by omega) hq HEQ), rfl, hl3, S9⟩
 refine W_exit (Wr (Pv (T_nil (W_ret ?_))))
 refine ⟨_, ⟨_, _, rfl, rfl, rfl⟩, ?_⟩
 have hk : k = l.length := by omega
 have heq : l = m := by rw [hk, List.take_length, List.take_of_length_le (by omega)] at hq; exact hq
 exact ⟨congrArg (fun z => Ending.returned (Value.bool z)) (decide_eq_true heq).symm, S5.below⟩


theorem copyB_ok {H : Hp} {w : World} (hH : H.le (hw w)) {l : List UInt8} {aa0 : Option Addr} {nn0 cc0 : Nat} (hv : Rd H (.slice aa0 nn0 cc0) nn0 1 (l.map bV)) (hb : l.length ≤ 1000000) :
  Calls Tryd.prog 28 #[.slice aa0 nn0 cc0] w fun e w' => ∃ a c, l.length ≤ c ∧ e = .returned (.slice a l.length c) ∧ rowZ w' w.heap.size 5 1 (.slice a l.length c) l.length (l.map bV) ∧ Below w.heap.size w w' := by
 obtain rfl : nn0 = l.length := hv.lenB
 have hvcap : l.length ≤ cc0 := hv.capOf
 refine enter1 _ Tryd.func28 rfl Tryd.ntmps28 Tryd.results28 rfl ?_
 have S0 := St.start w hH
 refine Wr (Pv (Nr ?_))
 refine Pv ?_
 have S1 := S0.nilRow 5 1
 refine Ag (h1 := by exact one_bV _) (hn' := by first | rfl | (simp; done) | (simp; omega) | omega) (hx' := by simp) (hbytes := by show _ * 1 ≤ _; omega) 0 l.length (l.map bV) S1 (hv.mono S1.le) fun a2 c3 w4 hc5 S6 => ?_
 refine Pv (T_nil (W_ret ?_))
 refine ⟨_, ⟨_, _, rfl, rfl, rfl⟩, ?_⟩
 exact ⟨_, _, hc5, rfl, S6.row 0 rfl, S6.below⟩


theorem copyH_ok {H : Hp} {w : World} (hH : H.le (hw w)) {l : List (List UInt8)} {aa0 : Option Addr} {nn0 cc0 : Nat} (hv : RdH H (.slice aa0 nn0 cc0) 32 l) (hb : l.length ≤ 1000000) :
  Calls Tryd.prog 54 #[.slice aa0 nn0 cc0] w fun e w' => ∃ a c, l.length ≤ c ∧ e = .returned (.slice a l.length c) ∧ rowZ w' w.heap.size 23 32 (.slice a l.length c) l.length (hcells l) ∧ Below w.heap.size w w' := by
 obtain rfl : nn0 = l.length := hv.len
 have hvcap : l.length ≤ cc0 := hv.2.capOf
 refine enter1 _ Tryd.func54 rfl Tryd.ntmps54 Tryd.results54 rfl ?_
 have S0 := St.start w hH
 refine Wr (Pv (Nr ?_))
 refine Pv ?_
 have S1 := S0.nilRow 23 32
 refine Ag (h1 := by exact one_hcells _) (hn' := by first | rfl | (simp; done) | (simp; omega) | omega) (hx' := by simp [hcells_append, hcells]) (hbytes := by show _ * 32 ≤ _; omega) 0 l.length (hcells l) S1 (hv.2.mono S1.le) fun a2 c3 w4 hc5 S6 => ?_
 refine Pv (T_nil (W_ret ?_))
 refine ⟨_, ⟨_, _, rfl, rfl, rfl⟩, ?_⟩
 exact ⟨_, _, hc5, rfl, S6.row 0 rfl, S6.below⟩


theorem withinN_ok {H : Hp} {w : World} (_ : H.le (hw w)) (v n : Int) (hn : 1 ≤ n ∧ n ≤ 1000000000) :
  Calls Tryd.prog 19 #[.int .i64 v, .int .i64 n] w fun e w' => e = .returned (.int .i64 (v % n)) ∧ Below w.heap.size w w' := within_ok v n w hn
end Go.Proofs.YtmjmjjkigblbgaaDoor
