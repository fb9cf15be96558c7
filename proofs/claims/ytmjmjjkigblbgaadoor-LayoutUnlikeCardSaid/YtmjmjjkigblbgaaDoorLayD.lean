/- Rows of hashes out of bytes; rows from the beginning. -/
import Derived.Test.YtmjmjjkigblbgaaDoorLaw14
import Derived.Test.YtmjmjjkigblbgaaDoorTreeB
import Derived.Test.YtmjmjjkigblbgaaDoorAuDoor
import Derived.Test.YtmjmjjkigblbgaaDoorFDoor
set_option linter.unusedVariables false
set_option linter.unusedSimpArgs false
set_option maxRecDepth 8192


namespace Go.Proofs.YtmjmjjkigblbgaaDoor
open Go Go.F Go.RowKit
open Go.Au

theorem rowL_ok {H : Hp} {w : World} (hH : H.le (hw w)) {l : List (List UInt8)} {aa0 : Option Addr} {nn0 cc0 : Nat} (hv : RdH H (.slice aa0 nn0 cc0) 32 l) (hb : l.length ≤ 100) :
  Calls Tryd.prog 56 #[.slice aa0 nn0 cc0] w fun e w' => ∃ a c, (flatTo [] l l.length).length ≤ c ∧ e = .returned (.slice a (flatTo [] l l.length).length c) ∧ rowZ w' w.heap.size 5 1 (.slice a (flatTo [] l l.length).length c) (flatTo [] l l.length).length ((flatTo [] l l.length).map bV) ∧ Below w.heap.size w w' := by
 obtain rfl : nn0 = l.length := hv.len
 have hvcap : l.length ≤ cc0 := hv.2.capOf
 refine enter1 _ Tryd.func56 rfl Tryd.ntmps56 Tryd.results56 rfl ?_
 have S0 := St.start w hH
 refine Wr (Pv (Nr ?_))
 refine Pv (T_nil (W_seq (Wr ?_)))
 iterate 3 refine Pv ?_
 refine T_nil (W_block ?_)
 have S1 := S0.nilRow 5 1
 refine W_loop (fun M ρ w' => ∃ (k : Nat) (a4 : Option Addr) (c5 : Nat) (G2 : Hp), M = l.length - k ∧ k ≤ l.length ∧ ρ = [(3, .slice a4 ((flatTo [] l k).length) c5), (6, .slice aa0 l.length cc0), (7, .int .i64 ((l.length : Nat) : Int)), (8, .int .i64 (k : Int))] ∧ H.le G2 ∧ St w H G2 [.row 5 1 (.slice a4 ((flatTo [] l k).length) c5) ((flatTo [] l k).length) ((flatTo [] l k).map bV)] w' ∧ (flatTo [] l k).length ≤ c5)
  (l.length - 0) [(3, .slice none 0 0), (6, .slice aa0 l.length cc0), (7, .int .i64 ((l.length : Nat) : Int)), (8, .int .i64 ((0 : Nat) : Int))] ⟨rfl, rfl, ciI, ciI, trivial⟩ ⟨0, none, 0, H, rfl, (by omega), rfl, Hp.le.refl _, S1, (Nat.le_refl _)⟩ ?_
 rintro M ρ w7 ⟨k, a4, c5, G2, rfl, hp9, rfl, hl3, S8, hc6⟩
 refine Wr (Pv (T_nil (W_seq ?_)))
 refine Aa (fun h10 => ?_) (fun h10 => ?_)
 ·refine W_skip (W_seq (W_block (Wr (Ah k (hv.mono hl3).2 fun b11 o12 hc13 => ?_))))
  have hc14 := cells_h (hv.mono hl3).1 k (by omega) hc13
  have hl15 := len_h (hv.mono hl3).1 k (by omega)
  refine T_loadGA _ S8 hc14 rfl rfl rfl rfl rfl rfl rfl rfl (hVs hl15) (Ae S8 fun b16 w17 S18 => ?_)
  refine T_storeFS 0 S18 (fun _ _ => trivial) rfl rfl rfl rfl rfl rfl rfl rfl rfl (hVs hl15) (hVs hl15) (one_hA _) fun w19 S20 => (T_nil (W_region (Pv ?_)))
  obtain ⟨G22, hl23, S21, r24⟩ := S20.stillBlk 0 rfl
  refine T_sliceAll rfl rfl rfl rfl rfl rfl rfl rfl ?_
  have r25 := Rd.of_blk (m := 32) (size := 1) (xs := (l.getD k []).map bV) r24 (hcell1 _) (by rw [List.length_map, hl15])
  have hD26 : (flatTo [] l k ++ l.getD k []) = flatTo [] l (k + 1) := rfl
  have hfl : (flatTo [] l (k + 1)).length = (flatTo [] l k).length + (l.getD k []).length := List.length_append
  refine Ag (h1 := by exact one_bV _) (hn' := by first | rfl | (simp; done) | (simp; omega) | omega) (hx' := by rw [← hD26]; simp) (h63 := by unfold maxLen; have hfb := flatT_bd (b := []) (q := l) (Nat.zero_le _) hb hv.1 (show k + 1 ≤ l.length by omega); omega) (hbytes := by show _ * 1 ≤ _; have hfb := flatT_bd (b := []) (q := l) (Nat.zero_le _) hb hv.1 (show k + 1 ≤ l.length by omega); omega) 0 ((flatTo [] l (k + 1)).length) ((flatTo [] l (k + 1)).map bV) S21 (r25.mono S21.le) fun a27 c28 w29 hc30 S31 => ?_
  refine Pv (T_nil (W_region ?_))
  refine Ar ?_
  refine Pv (T_nil ?_)
  exact ⟨l.length - (k + 1), [(3, .slice a27 ((flatTo [] l (k + 1)).length) c28), (6, .slice aa0 l.length cc0), (7, .int .i64 ((l.length : Nat) : Int)), (8, .int .i64 ((k + 1 : Nat) : Int))], by omega, ⟨rfl, rfl, ciI, ciI, trivial⟩, k + 1, a27, c28, G22, rfl, (by omega), rfl, (hl3.trans hl23), S31, hc30⟩
 refine W_exit (Wr ?_)
 iterate 2 refine Pv ?_
 refine T_nil (W_ret ?_)
 refine ⟨_, ⟨_, _, rfl, rfl, rfl⟩, ?_⟩
 obtain rfl : k = l.length := by omega
 exact ⟨_, _, hc6, rfl, S8.row 0 rfl, S8.below⟩


end Go.Proofs.YtmjmjjkigblbgaaDoor
