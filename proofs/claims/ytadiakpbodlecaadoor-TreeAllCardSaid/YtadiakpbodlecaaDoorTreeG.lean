/- Unlike rows: the program's and the document's. -/
import Derived.Test.YtadiakpbodlecaaDoorTreeF
import Derived.Test.YtadiakpbodlecaaDoorAuTree3
set_option linter.unusedVariables false
set_option linter.unusedSimpArgs false
set_option maxRecDepth 8192
namespace Go.Proofs.YtadiakpbodlecaaDoor
open Go Go.F Go.RowKit

theorem levels_lt (r : List (List UInt8)) {n k : Nat} (h : k < n) : (Go.Au.levels r n).getD k [] = Go.Au.ups r k := Go.Au.range_at _ _ h
theorem pair_at {X r : List (List UInt8)} (h : X = r) {c : Nat} (hc : c < r.length / 2) : X.getD (2 * c) [] ++ X.getD (2 * c + 1) [] = (Go.Au.prs r).getD c [] := by subst h; exact (Go.Au.prs_at _ hc).symm
theorem ptext_at {X r : List (List UInt8)} (h : X = r) (hr : ∀ b ∈ r, b.length = 32) {c : Nat} (hc : c < r.length / 2) : Go.Au.text [110, 111, 100, 101] [X.getD (2 * c) [], X.getD (2 * c + 1) []] = Go.Au.textP ((Go.Au.prs r).getD c []) := by
  subst h; rw [Go.Au.prs_at _ hc, Go.Au.textP_app (Go.Au.getD_len hr (by omega))]; rfl
theorem isbr_ne {D1 D2 P Q : List UInt8} (h1 : D1 = Go.Au.textP P) (h2 : D2 = Go.Au.textP Q) (h : (!decide (D1 = D2) && decide (Go.Sha.sha D1 = Go.Sha.sha D2)) = true) : ¬ P = Q := by
  intro e; rw [h1, h2, e] at h; simp at h
theorem isbr_no {D1 D2 P Q : List UInt8} (h1 : D1 = Go.Au.textP P) (h2 : D2 = Go.Au.textP Q) (hi : Go.Au.textP P = Go.Au.textP Q → P = Q) (hs : Go.Sha.sha (Go.Au.textP P) = Go.Sha.sha (Go.Au.textP Q)) (h : (!decide (D1 = D2) && decide (Go.Sha.sha D1 = Go.Sha.sha D2)) = false) : P = Q := by
  rw [h1, h2, decide_eq_true hs, Bool.and_true] at h
  exact hi (by simpa using h)
set_option maxHeartbeats 1000000 in
theorem unlikeT_ok {H : Hp} {w : World} (hH : H.le (hw w)) (hT : Tabs H) {l : List (List UInt8)} {aa0 : Option Addr} {nn0 cc0 : Nat} (hv : RdH H (.slice aa0 nn0 cc0) 32 l) {m : List (List UInt8)} {aa1 : Option Addr} {nn1 cc1 : Nat} (hu : RdH H (.slice aa1 nn1 cc1) 32 m) (hb : l.length ≤ 1024) (hb2 : m.length ≤ 1024) :
    Calls Tryd.prog 28 #[.slice aa0 nn0 cc0, .slice aa1 nn1 cc1] w fun e w' => ∃ a1 c1 a2 c2, e = .returned (.tuple #[.agg #[.slice a1 (Go.Au.brA (Go.Au.unlike l m)).length c1, .slice a2 (Go.Au.brB (Go.Au.unlike l m)).length c2], .bool (Go.Au.unlike l m).isSome]) ∧ Rd (F.ext H w.heap.size w') (.slice a1 (Go.Au.brA (Go.Au.unlike l m)).length c1) (Go.Au.brA (Go.Au.unlike l m)).length 1 ((Go.Au.brA (Go.Au.unlike l m)).map bV) ∧ Rd (F.ext H w.heap.size w') (.slice a2 (Go.Au.brB (Go.Au.unlike l m)).length c2) (Go.Au.brB (Go.Au.unlike l m)).length 1 ((Go.Au.brB (Go.Au.unlike l m)).map bV) ∧ Below w.heap.size w w' := by
  obtain rfl : nn0 = l.length := hv.len
  have hvcap : l.length ≤ cc0 := hv.2.capOf
  obtain rfl : nn1 = m.length := hu.len
  have hucap : m.length ≤ cc1 := hu.2.capOf
  have hlg := Go.Au.lg_le (n := l.length) (m := 10) (by omega)
  refine enter2 _ Tryd.func28 rfl Tryd.ntmps28 Tryd.results28 rfl ?_
  have S0 := St.start w hH
  refine W_seq ?_
  refine W_region ?_
  refine T_allocS S0 (fun _ _ => trivial) rfl rfl rfl rfl rfl rfl rfl fun b1 w2 S3 => ?_
  refine T_pev rfl rfl rfl rfl ?_
  refine T_nil ?_
  refine W_seq ?_
  refine W_seq ?_
  refine W_region ?_
  refine T_pev rfl rfl rfl rfl ?_
  refine T_pev rfl rfl rfl rfl ?_
  refine T_pev rfl rfl rfl rfl ?_
  refine T_pev rfl rfl rfl rfl ?_
  refine T_pev rfl rfl rfl rfl ?_
  refine T_nil ?_
  refine W_cond_not rfl (fun h4 => ?_) (fun h4 => ?_)
  · refine W_seq ?_
    refine W_region ?_
    refine T_buildS (cells := #[.slice none 0 0, .slice none 0 0]) rfl rfl rfl rfl rfl rfl rfl rfl rfl rfl ?_
    refine T_storeFS 0 S3 (fun _ _ => trivial) rfl rfl rfl rfl rfl rfl rfl rfl rfl (by first | rfl | simp [hVs, *]) (by first | rfl | simp [hVs, *]) (one_all rfl) fun w5 S6 => ?_
    refine T_pev rfl rfl rfl rfl ?_
    refine T_nil ?_
    refine W_ret ?_
    refine ⟨_, ⟨_, _, _, rfl, rfl, run_loadVarA rfl rfl (by first | rfl | simp [hVs, *]) (S6.cells 0 rfl), ⟨_, _, rfl, rfl, rfl⟩⟩, ?_⟩
    have hno : (Go.Au.unlike l m) = none := Go.Au.unlike_no1 (by omega)
    rw [hno]
    exact ⟨none, 0, none, 0, rfl, nilB _, nilB _, S6.below⟩
  refine W_skip ?_
  refine W_seq ?_
  refine W_region ?_
  have hlm : l.length = m.length := by omega
  have hlgm : (Go.Au.lg m.length) = (Go.Au.lg l.length) := by rw [hlm]
  refine T_pev rfl rfl rfl rfl ?_
  refine T_callS rfl rfl g_aumbry_tree_rows rfl rfl rfl rfl ((rows_ok S3.le hT hv (by omega)).mono ?_)
  rintro e w12 ⟨a7, c8, hc9, rfl, hr10, hB11⟩
  obtain ⟨G14, eG16⟩ : ∃ G, G = F.ext H w2.heap.size w12 := ⟨_, rfl⟩
  obtain ⟨hl15, S13⟩ := S3.ext hB11
  rw [← eG16] at hl15 S13 hr10
  refine ⟨_, rfl, trivial, ?_⟩
  refine T_pev rfl rfl rfl rfl ?_
  refine T_callS rfl rfl g_aumbry_tree_rows rfl rfl rfl rfl ((rows_ok S13.le (hT.mono hl15) (hu.mono hl15) (by omega)).mono ?_)
  rintro e w22 ⟨a17, c18, hc19, rfl, hr20, hB21⟩
  obtain ⟨G24, eG26⟩ : ∃ G, G = F.ext G14 w12.heap.size w22 := ⟨_, rfl⟩
  obtain ⟨hl25, S23⟩ := S13.ext hB21
  rw [← eG26] at hl25 S23 hr20
  refine ⟨_, rfl, trivial, ?_⟩
  refine T_pev rfl rfl rfl rfl ?_
  refine T_pev rfl rfl rfl rfl ?_
  refine T_nil ?_
  refine W_seq ?_
  refine W_region ?_
  refine T_pev rfl rfl rfl rfl ?_
  refine T_pev rfl rfl rfl rfl ?_
  refine T_ari rfl rfl rfl rfl (by omega) ?_
  refine T_pev rfl rfl rfl rfl ?_
  refine T_nil ?_
  refine W_seq ?_
  refine W_seq ?_
  have hla := Go.Au.levels_at (Go.Au.rowP l) (Go.Au.lg l.length)
  have hlb : (Go.Au.levels (Go.Au.rowP m) ((Go.Au.lg m.length) + 1)).getD (Go.Au.lg l.length) [] = Go.Au.ups (Go.Au.rowP m) (Go.Au.lg m.length) := (levels_lt (Go.Au.rowP m) (by omega)).trans (by rw [hlgm])
  have hll := Go.Au.levels_len (Go.Au.rowP l) ((Go.Au.lg l.length) + 1)
  have hlm2 := Go.Au.levels_len (Go.Au.rowP m) ((Go.Au.lg m.length) + 1)
  have hu1 := Go.Au.ups_bd (l := l) (k := (Go.Au.lg l.length)) hb (Nat.le_refl _)
  have hu2 := Go.Au.ups_bd (l := m) (k := (Go.Au.lg m.length)) hb2 (Nat.le_refl _)
  have hz1 : 0 < ((Go.Au.levels (Go.Au.rowP l) ((Go.Au.lg l.length) + 1)).getD (Go.Au.lg l.length) []).length := by rw [hla]; exact hu1.2
  have hz2 : 0 < ((Go.Au.levels (Go.Au.rowP m) ((Go.Au.lg m.length) + 1)).getD (Go.Au.lg l.length) []).length := by rw [hlb]; exact hu2.2
  refine W_draw rfl (by kernel_rfl) ?_
  have S27 := S23.drew
  refine T_pev rfl rfl rfl rfl ?_
  refine T_pev rfl rfl rfl rfl ?_
  obtain ⟨hs31, r32, r33⟩ := (hr10.mono hl25)
  refine T_idxR (Go.Au.lg l.length) r32 rfl rfl rfl rfl rfl rfl rfl rfl rfl (by omega) (by omega) fun b28 o29 hc30 => ?_
  obtain ⟨a36, c37, hc39, hv35, r38⟩ := r33.at (Go.Au.lg l.length) (by omega)
  have hc40 := hc30 0 (.slice a36 ((Go.Au.levels (Go.Au.rowP l) (Go.Au.lg l.length + 1)).getD (Go.Au.lg l.length) []).length c37) (by simpa using hv35)
  simp only [Nat.add_zero] at hc40
  refine T_loadG S27 hc40 rfl rfl rfl rfl rfl rfl rfl ?_
  refine T_idxR 0 r38.2 rfl rfl rfl rfl rfl rfl rfl rfl rfl (by omega) (by omega) fun b41 o42 hc43 => ?_
  have hc44 := cells_h r38.1 0 (by omega) hc43
  have hl45 := len_h r38.1 0 (by omega)
  refine T_loadGA _ S27 hc44 rfl rfl rfl rfl rfl rfl rfl rfl (hVs hl45) ?_
  refine T_re (v' := hV (Go.Au.root l)) (congrArg (fun q : List (List UInt8) => hV (q.getD 0 [])) hla) ?_
  refine T_pev rfl rfl rfl rfl ?_
  refine T_pev rfl rfl rfl rfl ?_
  obtain ⟨hs49, r50, r51⟩ := (id hr20)
  refine T_idxR (Go.Au.lg l.length) r50 rfl rfl rfl rfl rfl rfl rfl rfl rfl (by omega) (by omega) fun b46 o47 hc48 => ?_
  obtain ⟨a54, c55, hc57, hv53, r56⟩ := r51.at (Go.Au.lg l.length) (by omega)
  have hc58 := hc48 0 (.slice a54 ((Go.Au.levels (Go.Au.rowP m) (Go.Au.lg m.length + 1)).getD (Go.Au.lg l.length) []).length c55) (by simpa using hv53)
  simp only [Nat.add_zero] at hc58
  refine T_loadG S27 hc58 rfl rfl rfl rfl rfl rfl rfl ?_
  refine T_idxR 0 r56.2 rfl rfl rfl rfl rfl rfl rfl rfl rfl (by omega) (by omega) fun b59 o60 hc61 => ?_
  have hc62 := cells_h r56.1 0 (by omega) hc61
  have hl63 := len_h r56.1 0 (by omega)
  refine T_loadGA _ S27 hc62 rfl rfl rfl rfl rfl rfl rfl rfl (hVs hl63) ?_
  refine T_re (v' := hV (Go.Au.root m)) (congrArg (fun q : List (List UInt8) => hV (q.getD 0 [])) hlb) ?_
  refine T_neB (xs := Go.Au.root l) (ys := Go.Au.root m) rfl rfl rfl rfl rfl rfl rfl rfl rfl rfl rfl (Go.Au.root_len hv.1) (Go.Au.root_len hu.1) ?_
  refine T_nil ?_
  refine W_cond_not rfl (fun h64 => ?_) (fun h64 => ?_)
  · refine W_seq ?_
    refine W_region ?_
    refine T_buildS (cells := #[.slice none 0 0, .slice none 0 0]) rfl rfl rfl rfl rfl rfl rfl rfl rfl rfl ?_
    refine T_storeFS 0 S27 (fun _ _ => trivial) rfl rfl rfl rfl rfl rfl rfl rfl rfl (by first | rfl | simp [hVs, *]) (by first | rfl | simp [hVs, *]) (one_all rfl) fun w65 S66 => ?_
    refine T_pev rfl rfl rfl rfl ?_
    refine T_nil ?_
    refine W_ret ?_
    refine ⟨_, ⟨_, _, _, rfl, rfl, run_loadVarA rfl rfl (by first | rfl | simp [hVs, *]) (S66.cells 0 rfl), ⟨_, _, rfl, rfl, rfl⟩⟩, ?_⟩
    have hno : (Go.Au.unlike l m) = none := Go.Au.unlike_no2 h64
    rw [hno]
    exact ⟨none, 0, none, 0, rfl, nilB _, nilB _, S66.below⟩
  refine W_skip ?_
  refine W_seq ?_
  refine W_seq ?_
  have hroot : Go.Au.root l = Go.Au.root m := h64
  refine W_region ?_
  refine T_pev rfl rfl rfl rfl ?_
  refine T_ari rfl rfl rfl rfl (by omega) ?_
  refine T_pev rfl rfl rfl rfl ?_
  refine T_nil ?_
  refine W_block ?_
  refine W_loop (fun M ρ w' => ∃ (k : Nat) (G67 : Hp), M = 1 + k ∧ k ≤ (Go.Au.lg l.length) ∧ Go.Au.unl (Go.Au.rowP l) (Go.Au.rowP m) (Go.Au.lg l.length) = Go.Au.unl (Go.Au.rowP l) (Go.Au.rowP m) k ∧ ρ = [(4, .pointer (some ⟨b1, 0, none⟩)), (6, .slice a7 (Go.Au.lg l.length + 1) c8), (7, .slice a17 (Go.Au.lg m.length + 1) c18), (9, .int .i64 (((k : Nat) : Int) - 1))] ∧ G24.le G67 ∧ St w H G67 [.blk b1 (.agg #[.slice none 0 0, .slice none 0 0] : Value).cells 45] w')
    (1 + (Go.Au.lg l.length)) [(4, .pointer (some ⟨b1, 0, none⟩)), (6, .slice a7 (Go.Au.lg l.length + 1) c8), (7, .slice a17 (Go.Au.lg m.length + 1) c18), (9, .int .i64 ((((Go.Au.lg l.length) : Nat) : Int) - 1))] ⟨rfl, rfl, rfl, (congrArg (fun z => some (Value.int .i64 z)) (by omega)), trivial⟩ ⟨(Go.Au.lg l.length), G24, rfl, (by omega), (by rfl), rfl, Hp.le.refl _, S27⟩ ?_
  rintro M ρ w69 ⟨k, G67, rfl, hp71, hinv, rfl, hl68, S70⟩
  refine W_seq ?_
  refine W_seq ?_
  refine W_region ?_
  refine T_pev rfl rfl rfl rfl ?_
  refine T_pev rfl rfl rfl rfl ?_
  refine T_nil ?_
  refine W_cond_dec rfl (fun h73 => ?_) (fun h73 => ?_)
  · refine W_skip ?_
    refine W_seq ?_
    refine W_block ?_
    refine W_seq ?_
    obtain ⟨j, rfl⟩ : ∃ j, k = j + 1 := ⟨k - 1, by omega⟩
    have hRj := levels_lt (Go.Au.rowP l) (n := ((Go.Au.lg l.length) + 1)) (k := j) (by omega)
    have hSj := levels_lt (Go.Au.rowP m) (n := ((Go.Au.lg m.length) + 1)) (k := j) (by omega)
    have hRl := Go.Au.ups_len (Go.Au.rowP_len l) j (by omega)
    have hSl := Go.Au.ups_len (Go.Au.rowP_len2 hlm) j (by omega)
    have hev := Go.Au.ups_even (Go.Au.rowP_len l) (show j < (Go.Au.lg l.length) by omega)
    have hub := Go.Au.ups_bd (l := l) (k := j) hb (by omega)
    have hRjl : ((Go.Au.levels (Go.Au.rowP l) ((Go.Au.lg l.length) + 1)).getD j []).length = (Go.Au.ups (Go.Au.rowP l) j).length := by rw [hRj]
    have hSjl : ((Go.Au.levels (Go.Au.rowP m) ((Go.Au.lg m.length) + 1)).getD j []).length = (Go.Au.ups (Go.Au.rowP l) j).length := by rw [hSj, hRl, hSl]
    have hll := Go.Au.levels_len (Go.Au.rowP l) ((Go.Au.lg l.length) + 1)
    have hlm2 := Go.Au.levels_len (Go.Au.rowP m) ((Go.Au.lg m.length) + 1)
    have hSRl : (Go.Au.ups (Go.Au.rowP m) j).length = (Go.Au.ups (Go.Au.rowP l) j).length := by rw [hRl, hSl]
    refine W_region ?_
    refine T_pev rfl rfl rfl rfl ?_
    refine T_nil ?_
    refine W_block ?_
    refine W_loop (fun M ρ w' => ∃ (c : Nat) (G74 : Hp), M = (Go.Au.ups (Go.Au.rowP l) j).length - c ∧ 2 * c ≤ (Go.Au.ups (Go.Au.rowP l) j).length ∧ Go.Au.firstNe (Go.Au.prs (Go.Au.ups (Go.Au.rowP l) j)) (Go.Au.prs (Go.Au.ups (Go.Au.rowP m) j)) c = none ∧ ρ = [(4, .pointer (some ⟨b1, 0, none⟩)), (6, .slice a7 (Go.Au.lg l.length + 1) c8), (7, .slice a17 (Go.Au.lg m.length + 1) c18), (9, .int .i64 ((((j + 1) : Nat) : Int) - 1)), (10, .int .i64 ((2 * c : Nat) : Int))] ∧ G67.le G74 ∧ St w H G74 [.blk b1 (.agg #[.slice none 0 0, .slice none 0 0] : Value).cells 45] w')
      ((Go.Au.ups (Go.Au.rowP l) j).length - 0) [(4, .pointer (some ⟨b1, 0, none⟩)), (6, .slice a7 (Go.Au.lg l.length + 1) c8), (7, .slice a17 (Go.Au.lg m.length + 1) c18), (9, .int .i64 ((((j + 1) : Nat) : Int) - 1)), (10, .int .i64 ((2 * 0 : Nat) : Int))] ⟨rfl, rfl, rfl, (congrArg (fun z => some (Value.int .i64 z)) (by omega)), (congrArg (fun z => some (Value.int .i64 z)) (by omega)), trivial⟩ ⟨0, G67, rfl, (by omega), (by rfl), rfl, Hp.le.refl _, S70⟩ ?_
    rintro M ρ w76 ⟨c, G74, rfl, hp78, hfn, rfl, hl75, S77⟩
    refine W_seq ?_
    refine W_seq ?_
    refine W_region ?_
    refine T_pev rfl rfl rfl rfl ?_
    refine T_pev rfl rfl rfl rfl ?_
    refine T_pev rfl rfl rfl rfl ?_
    obtain ⟨hs83, r84, r85⟩ := (hr10.mono (hl25.trans (hl68.trans hl75)))
    refine T_idxR j r84 rfl rfl rfl rfl rfl rfl rfl rfl rfl (by omega) (by omega) fun b80 o81 hc82 => ?_
    obtain ⟨a88, c89, hc91, hv87, r90⟩ := r85.at j (by omega)
    have hc92 := hc82 0 (.slice a88 ((Go.Au.levels (Go.Au.rowP l) (Go.Au.lg l.length + 1)).getD j []).length c89) (by simpa using hv87)
    simp only [Nat.add_zero] at hc92
    refine T_loadG S77 hc92 rfl rfl rfl rfl rfl rfl rfl ?_
    refine T_pev rfl rfl rfl rfl ?_
    refine T_pev rfl rfl rfl rfl ?_
    refine T_nil ?_
    refine W_cond_dec rfl (fun h93 => ?_) (fun h93 => ?_)
    · refine W_skip ?_
      refine W_seq ?_
      refine W_block ?_
      refine W_seq ?_
      refine W_tree (planF Tryd.prog G74 [58, 61, 65, 69, 74, 77, 81, 85]) (.step 0 (.step 1 (.step 2 (.step 3 (.step 4 (.step 5 (.step 6 (.step 7 (.step 8 (.step 9 (.step 10 (.step 11 (.step 12 (.step 13 (.step 14 (.step 15 (.step 16 (.step 17 (.step 18 (.step 19 (.step 20 (.step 21 (.step 22 (.step 23 (.step 24 (.step 25 (.step 26 (.step 27 (.step 28 (.step 29 (.step 30 (.step 31 (.fork 32 33 (.step 33 (.step 34 (.step 35 .done))) (.step 32 (.step 34 (.step 35 .done)))))))))))))))))))))))))))))))))))) rfl (by kernel_rfl) S77.le ?_
      have S94 := S77.drew
      refine TT_step rfl ?_
      refine T_pev rfl rfl rfl rfl ?_
      refine T_nil ?_
      refine TT_step rfl ?_
      refine T_pev rfl rfl rfl rfl ?_
      refine T_nil ?_
      refine TT_step rfl ?_
      obtain ⟨hs98, r99, r100⟩ := (hr10.mono (hl25.trans (hl68.trans hl75)))
      refine T_idxR j r99 rfl rfl rfl rfl rfl rfl rfl rfl rfl (by omega) (by omega) fun b95 o96 hc97 => ?_
      obtain ⟨a103, c104, hc106, hv102, r105⟩ := r100.at j (by omega)
      have hc107 := hc97 0 (.slice a103 ((Go.Au.levels (Go.Au.rowP l) (Go.Au.lg l.length + 1)).getD j []).length c104) (by simpa using hv102)
      simp only [Nat.add_zero] at hc107
      refine T_nil ?_
      refine TT_step rfl ?_
      refine T_loadGP (fun _ h => h) hc107 rfl rfl rfl rfl rfl rfl rfl ?_
      refine T_nil ?_
      refine TT_step rfl ?_
      refine T_pev rfl rfl rfl rfl ?_
      refine T_nil ?_
      refine TT_step rfl ?_
      refine T_idxR (2 * c) r105.2 rfl rfl rfl rfl rfl rfl rfl rfl rfl (by omega) (by omega) fun b108 o109 hc110 => ?_
      have hc111 := cells_h r105.1 (2 * c) (by omega) hc110
      have hl112 := len_h r105.1 (2 * c) (by omega)
      refine T_nil ?_
      refine TT_step rfl ?_
      refine T_loadGAP _ (fun _ h => h) hc111 rfl rfl rfl rfl rfl rfl rfl rfl (hVs hl112) ?_
      refine T_nil ?_
      refine TT_step rfl ?_
      refine T_pev rfl rfl rfl rfl ?_
      refine T_nil ?_
      refine TT_step rfl ?_
      refine T_pev rfl rfl rfl rfl ?_
      refine T_nil ?_
      refine TT_step rfl ?_
      obtain ⟨hs116, r117, r118⟩ := (hr10.mono (hl25.trans (hl68.trans hl75)))
      refine T_idxR j r117 rfl rfl rfl rfl rfl rfl rfl rfl rfl (by omega) (by omega) fun b113 o114 hc115 => ?_
      obtain ⟨a121, c122, hc124, hv120, r123⟩ := r118.at j (by omega)
      have hc125 := hc115 0 (.slice a121 ((Go.Au.levels (Go.Au.rowP l) (Go.Au.lg l.length + 1)).getD j []).length c122) (by simpa using hv120)
      simp only [Nat.add_zero] at hc125
      refine T_nil ?_
      refine TT_step rfl ?_
      refine T_loadGP (fun _ h => h) hc125 rfl rfl rfl rfl rfl rfl rfl ?_
      refine T_nil ?_
      refine TT_step rfl ?_
      refine T_pev rfl rfl rfl rfl ?_
      refine T_nil ?_
      refine TT_step rfl ?_
      refine T_ari rfl rfl rfl rfl (by omega) ?_
      refine T_nil ?_
      refine TT_step rfl ?_
      refine T_idxR ((2 * c) + 1) r123.2 rfl rfl rfl rfl rfl rfl rfl rfl rfl (by omega) (by omega) fun b126 o127 hc128 => ?_
      have hc129 := cells_h r123.1 ((2 * c) + 1) (by omega) hc128
      have hl130 := len_h r123.1 ((2 * c) + 1) (by omega)
      refine T_nil ?_
      refine TT_step rfl ?_
      refine T_loadGAP _ (fun _ h => h) hc129 rfl rfl rfl rfl rfl rfl rfl rfl (hVs hl130) ?_
      refine T_nil ?_
      refine TT_step rfl ?_
      have hl131 : ((((Go.Au.levels (Go.Au.rowP l) (Go.Au.lg l.length + 1)).getD j []).getD (2 * c) []) ++ (((Go.Au.levels (Go.Au.rowP l) (Go.Au.lg l.length + 1)).getD j []).getD ((2 * c) + 1) [])).length = 64 := by rw [List.length_append, hl112, hl130]
      refine T_buildA (cells := (hV ((((Go.Au.levels (Go.Au.rowP l) (Go.Au.lg l.length + 1)).getD j []).getD (2 * c) []) ++ (((Go.Au.levels (Go.Au.rowP l) (Go.Au.lg l.length + 1)).getD j []).getD ((2 * c) + 1) []))).cells) rfl rfl rfl rfl rfl rfl (fill2 (by decide) rfl rfl hl112 hl130) rfl rfl rfl ?_
      refine T_re (v' := hV ((Go.Au.prs (Go.Au.ups (Go.Au.rowP l) j)).getD c [])) (congrArg (fun q => hV q) (pair_at hRj (by omega))) ?_
      refine T_nil ?_
      refine TT_step rfl ?_
      refine T_pev rfl rfl rfl rfl ?_
      refine T_nil ?_
      refine TT_step rfl ?_
      refine T_pev rfl rfl rfl rfl ?_
      refine T_nil ?_
      refine TT_step rfl ?_
      obtain ⟨hs135, r136, r137⟩ := (hr20.mono (hl68.trans hl75))
      refine T_idxR j r136 rfl rfl rfl rfl rfl rfl rfl rfl rfl (by omega) (by omega) fun b132 o133 hc134 => ?_
      obtain ⟨a140, c141, hc143, hv139, r142⟩ := r137.at j (by omega)
      have hc144 := hc134 0 (.slice a140 ((Go.Au.levels (Go.Au.rowP m) (Go.Au.lg m.length + 1)).getD j []).length c141) (by simpa using hv139)
      simp only [Nat.add_zero] at hc144
      refine T_nil ?_
      refine TT_step rfl ?_
      refine T_loadGP (fun _ h => h) hc144 rfl rfl rfl rfl rfl rfl rfl ?_
      refine T_nil ?_
      refine TT_step rfl ?_
      refine T_pev rfl rfl rfl rfl ?_
      refine T_nil ?_
      refine TT_step rfl ?_
      refine T_idxR (2 * c) r142.2 rfl rfl rfl rfl rfl rfl rfl rfl rfl (by omega) (by omega) fun b145 o146 hc147 => ?_
      have hc148 := cells_h r142.1 (2 * c) (by omega) hc147
      have hl149 := len_h r142.1 (2 * c) (by omega)
      refine T_nil ?_
      refine TT_step rfl ?_
      refine T_loadGAP _ (fun _ h => h) hc148 rfl rfl rfl rfl rfl rfl rfl rfl (hVs hl149) ?_
      refine T_nil ?_
      refine TT_step rfl ?_
      refine T_pev rfl rfl rfl rfl ?_
      refine T_nil ?_
      refine TT_step rfl ?_
      refine T_pev rfl rfl rfl rfl ?_
      refine T_nil ?_
      refine TT_step rfl ?_
      obtain ⟨hs153, r154, r155⟩ := (hr20.mono (hl68.trans hl75))
      refine T_idxR j r154 rfl rfl rfl rfl rfl rfl rfl rfl rfl (by omega) (by omega) fun b150 o151 hc152 => ?_
      obtain ⟨a158, c159, hc161, hv157, r160⟩ := r155.at j (by omega)
      have hc162 := hc152 0 (.slice a158 ((Go.Au.levels (Go.Au.rowP m) (Go.Au.lg m.length + 1)).getD j []).length c159) (by simpa using hv157)
      simp only [Nat.add_zero] at hc162
      refine T_nil ?_
      refine TT_step rfl ?_
      refine T_loadGP (fun _ h => h) hc162 rfl rfl rfl rfl rfl rfl rfl ?_
      refine T_nil ?_
      refine TT_step rfl ?_
      refine T_pev rfl rfl rfl rfl ?_
      refine T_nil ?_
      refine TT_step rfl ?_
      refine T_ari rfl rfl rfl rfl (by omega) ?_
      refine T_nil ?_
      refine TT_step rfl ?_
      refine T_idxR ((2 * c) + 1) r160.2 rfl rfl rfl rfl rfl rfl rfl rfl rfl (by omega) (by omega) fun b163 o164 hc165 => ?_
      have hc166 := cells_h r160.1 ((2 * c) + 1) (by omega) hc165
      have hl167 := len_h r160.1 ((2 * c) + 1) (by omega)
      refine T_nil ?_
      refine TT_step rfl ?_
      refine T_loadGAP _ (fun _ h => h) hc166 rfl rfl rfl rfl rfl rfl rfl rfl (hVs hl167) ?_
      refine T_nil ?_
      refine TT_step rfl ?_
      have hl168 : ((((Go.Au.levels (Go.Au.rowP m) (Go.Au.lg m.length + 1)).getD j []).getD (2 * c) []) ++ (((Go.Au.levels (Go.Au.rowP m) (Go.Au.lg m.length + 1)).getD j []).getD ((2 * c) + 1) [])).length = 64 := by rw [List.length_append, hl149, hl167]
      refine T_buildA (cells := (hV ((((Go.Au.levels (Go.Au.rowP m) (Go.Au.lg m.length + 1)).getD j []).getD (2 * c) []) ++ (((Go.Au.levels (Go.Au.rowP m) (Go.Au.lg m.length + 1)).getD j []).getD ((2 * c) + 1) []))).cells) rfl rfl rfl rfl rfl rfl (fill2 (by decide) rfl rfl hl149 hl167) rfl rfl rfl ?_
      refine T_re (v' := hV ((Go.Au.prs (Go.Au.ups (Go.Au.rowP m) j)).getD c [])) (congrArg (fun q => hV q) (pair_at hSj (by omega))) ?_
      refine T_nil ?_
      refine TT_fork rfl rfl ?_ ?_
      · refine T_allocS S94 (fun _ h => ((Hp.le.refl _)).trans h) rfl rfl rfl rfl rfl rfl rfl fun b169 w170 S171 => ?_
        refine T_nil ?_
        refine TT_step rfl ?_
        refine T_allocS S171 (fun _ h => ((Hp.le.refl _)).trans h) rfl rfl rfl rfl rfl rfl rfl fun b172 w173 S174 => ?_
        refine T_nil ?_
        refine TT_step rfl ?_
        refine T_storeFS 1 S174 (fun _ h => ((Hp.le.refl _)).trans h) rfl rfl rfl rfl rfl rfl rfl rfl rfl (hVs (Go.Au.prs_len (Go.Au.ups_all (Go.Au.rowP_all hv.1) j) (by omega))) (hVs (Go.Au.prs_len (Go.Au.ups_all (Go.Au.rowP_all hv.1) j) (by omega))) (one_hA _) fun w175 S176 => ?_
        refine T_nil ?_
        refine TT_step rfl ?_
        refine T_storeFS 0 S176 (fun _ h => ((Hp.le.refl _)).trans h) rfl rfl rfl rfl rfl rfl rfl rfl rfl (hVs (Go.Au.prs_len (Go.Au.ups_all (Go.Au.rowP_all hu.1) j) (by omega))) (hVs (Go.Au.prs_len (Go.Au.ups_all (Go.Au.rowP_all hu.1) j) (by omega))) (one_hA _) fun w177 S178 => ?_
        refine T_nil ?_
        refine TT_done ?_
        refine W_seq ?_
        refine W_region ?_
        refine T_loadFS 1 S178 rfl rfl rfl rfl rfl rfl rfl rfl rfl (hVs (Go.Au.prs_len (Go.Au.ups_all (Go.Au.rowP_all hv.1) j) (by omega))) ?_
        refine T_loadFS 0 S178 rfl rfl rfl rfl rfl rfl rfl rfl rfl (hVs (Go.Au.prs_len (Go.Au.ups_all (Go.Au.rowP_all hu.1) j) (by omega))) ?_
        refine T_neP (len := 32) (xs := ((Go.Au.prs (Go.Au.ups (Go.Au.rowP l) j)).getD c [])) (ys := ((Go.Au.prs (Go.Au.ups (Go.Au.rowP m) j)).getD c [])) rfl rfl rfl rfl rfl rfl rfl rfl rfl rfl rfl rfl rfl rfl rfl (Go.Au.prs_len (Go.Au.ups_all (Go.Au.rowP_all hv.1) j) (by omega)) (Go.Au.prs_len (Go.Au.ups_all (Go.Au.rowP_all hu.1) j) (by omega)) ?_
        refine T_nil ?_
        refine W_cond_not rfl (fun h179 => ?_) (fun h179 => ?_)
        · refine W_seq ?_
          refine W_region ?_
          refine T_loadFS 1 S178 rfl rfl rfl rfl rfl rfl rfl rfl rfl (hVs (Go.Au.prs_len (Go.Au.ups_all (Go.Au.rowP_all hv.1) j) (by omega))) ?_
          refine T_loadFS 0 S178 rfl rfl rfl rfl rfl rfl rfl rfl rfl (hVs (Go.Au.prs_len (Go.Au.ups_all (Go.Au.rowP_all hu.1) j) (by omega))) ?_
          refine T_callS rfl rfl g_aumbry_tree_unlike rfl rfl rfl rfl ((unlike_ok S178.le (hT.mono (hl15.trans (hl25.trans (hl68.trans hl75)))) (Go.Au.prs_len (Go.Au.ups_all (Go.Au.rowP_all hv.1) j) (by omega)) (Go.Au.prs_len (Go.Au.ups_all (Go.Au.rowP_all hu.1) j) (by omega))).mono ?_)
          rintro e w187 ⟨a180, c181, a182, c183, rfl, r184, r185, hB186⟩
          obtain ⟨G189, eG191⟩ : ∃ G, G = F.ext G74 w177.heap.size w187 := ⟨_, rfl⟩
          obtain ⟨hl190, S188⟩ := S178.ext hB186
          rw [← eG191] at hl190 S188 r184 r185
          refine ⟨_, rfl, trivial, ?_⟩
          refine T_storeFS 2 S188 (fun _ _ => trivial) rfl rfl rfl rfl rfl rfl rfl rfl rfl (by first | rfl | simp [hVs, *]) (by first | rfl | simp [hVs, *]) (one_all rfl) fun w192 S193 => ?_
          refine T_pev rfl rfl rfl rfl ?_
          refine T_nil ?_
          refine W_ret ?_
          refine ⟨_, ⟨_, _, _, rfl, rfl, run_loadVarA rfl rfl (by first | rfl | simp [hVs, *]) (S193.cells 2 rfl), ⟨_, _, rfl, rfl, rfl⟩⟩, ?_⟩
          have hyes := Go.Au.unlike_eq hlm hroot (hinv.trans (Go.Au.unl_hit (Go.Au.firstNe_hit hfn h179 _ (by omega))))
          exact br_end hyes r184 r185 S193.fin S193.below
        refine W_skip ?_
        refine W_region ?_
        refine T_pev rfl rfl rfl rfl ?_
        refine T_ari rfl rfl rfl rfl (by omega) ?_
        refine T_pev rfl rfl rfl rfl ?_
        refine T_nil ?_
        have HFN := Go.Au.firstNe_next hfn h179
        have S194 := S178.drop 1
        have S195 := S194.drop 0
        exact ⟨(Go.Au.ups (Go.Au.rowP l) j).length - (c + 1), [(4, .pointer (some ⟨b1, 0, none⟩)), (6, .slice a7 (Go.Au.lg l.length + 1) c8), (7, .slice a17 (Go.Au.lg m.length + 1) c18), (9, .int .i64 ((((j + 1) : Nat) : Int) - 1)), (10, .int .i64 ((2 * (c + 1) : Nat) : Int))], by omega, ⟨rfl, rfl, rfl, (congrArg (fun z => some (Value.int .i64 z)) (by omega)), (congrArg (fun z => some (Value.int .i64 z)) (by omega)), trivial⟩, c + 1, G74, rfl, (by omega), (by exact HFN), rfl, hl75, S195⟩
      refine T_allocS S94 (fun _ h => ((Hp.le.refl _)).trans h) rfl rfl rfl rfl rfl rfl rfl fun b196 w197 S198 => ?_
      refine T_nil ?_
      refine TT_step rfl ?_
      refine T_allocS S198 (fun _ h => ((Hp.le.refl _)).trans h) rfl rfl rfl rfl rfl rfl rfl fun b199 w200 S201 => ?_
      refine T_nil ?_
      refine TT_step rfl ?_
      refine T_storeFS 0 S201 (fun _ h => ((Hp.le.refl _)).trans h) rfl rfl rfl rfl rfl rfl rfl rfl rfl (hVs (Go.Au.prs_len (Go.Au.ups_all (Go.Au.rowP_all hv.1) j) (by omega))) (hVs (Go.Au.prs_len (Go.Au.ups_all (Go.Au.rowP_all hv.1) j) (by omega))) (one_hA _) fun w202 S203 => ?_
      refine T_nil ?_
      refine TT_step rfl ?_
      refine T_storeFS 1 S203 (fun _ h => ((Hp.le.refl _)).trans h) rfl rfl rfl rfl rfl rfl rfl rfl rfl (hVs (Go.Au.prs_len (Go.Au.ups_all (Go.Au.rowP_all hu.1) j) (by omega))) (hVs (Go.Au.prs_len (Go.Au.ups_all (Go.Au.rowP_all hu.1) j) (by omega))) (one_hA _) fun w204 S205 => ?_
      refine T_nil ?_
      refine TT_done ?_
      refine W_seq ?_
      refine W_region ?_
      refine T_loadFS 0 S205 rfl rfl rfl rfl rfl rfl rfl rfl rfl (hVs (Go.Au.prs_len (Go.Au.ups_all (Go.Au.rowP_all hv.1) j) (by omega))) ?_
      refine T_loadFS 1 S205 rfl rfl rfl rfl rfl rfl rfl rfl rfl (hVs (Go.Au.prs_len (Go.Au.ups_all (Go.Au.rowP_all hu.1) j) (by omega))) ?_
      refine T_neP (len := 32) (xs := ((Go.Au.prs (Go.Au.ups (Go.Au.rowP l) j)).getD c [])) (ys := ((Go.Au.prs (Go.Au.ups (Go.Au.rowP m) j)).getD c [])) rfl rfl rfl rfl rfl rfl rfl rfl rfl rfl rfl rfl rfl rfl rfl (Go.Au.prs_len (Go.Au.ups_all (Go.Au.rowP_all hv.1) j) (by omega)) (Go.Au.prs_len (Go.Au.ups_all (Go.Au.rowP_all hu.1) j) (by omega)) ?_
      refine T_nil ?_
      refine W_cond_not rfl (fun h206 => ?_) (fun h206 => ?_)
      · refine W_seq ?_
        refine W_region ?_
        refine T_loadFS 0 S205 rfl rfl rfl rfl rfl rfl rfl rfl rfl (hVs (Go.Au.prs_len (Go.Au.ups_all (Go.Au.rowP_all hv.1) j) (by omega))) ?_
        refine T_loadFS 1 S205 rfl rfl rfl rfl rfl rfl rfl rfl rfl (hVs (Go.Au.prs_len (Go.Au.ups_all (Go.Au.rowP_all hu.1) j) (by omega))) ?_
        refine T_callS rfl rfl g_aumbry_tree_unlike rfl rfl rfl rfl ((unlike_ok S205.le (hT.mono (hl15.trans (hl25.trans (hl68.trans hl75)))) (Go.Au.prs_len (Go.Au.ups_all (Go.Au.rowP_all hv.1) j) (by omega)) (Go.Au.prs_len (Go.Au.ups_all (Go.Au.rowP_all hu.1) j) (by omega))).mono ?_)
        rintro e w214 ⟨a207, c208, a209, c210, rfl, r211, r212, hB213⟩
        obtain ⟨G216, eG218⟩ : ∃ G, G = F.ext G74 w204.heap.size w214 := ⟨_, rfl⟩
        obtain ⟨hl217, S215⟩ := S205.ext hB213
        rw [← eG218] at hl217 S215 r211 r212
        refine ⟨_, rfl, trivial, ?_⟩
        refine T_storeFS 2 S215 (fun _ _ => trivial) rfl rfl rfl rfl rfl rfl rfl rfl rfl (by first | rfl | simp [hVs, *]) (by first | rfl | simp [hVs, *]) (one_all rfl) fun w219 S220 => ?_
        refine T_pev rfl rfl rfl rfl ?_
        refine T_nil ?_
        refine W_ret ?_
        refine ⟨_, ⟨_, _, _, rfl, rfl, run_loadVarA rfl rfl (by first | rfl | simp [hVs, *]) (S220.cells 2 rfl), ⟨_, _, rfl, rfl, rfl⟩⟩, ?_⟩
        have hyes := Go.Au.unlike_eq hlm hroot (hinv.trans (Go.Au.unl_hit (Go.Au.firstNe_hit hfn h206 _ (by omega))))
        exact br_end hyes r211 r212 S220.fin S220.below
      refine W_skip ?_
      refine W_region ?_
      refine T_pev rfl rfl rfl rfl ?_
      refine T_ari rfl rfl rfl rfl (by omega) ?_
      refine T_pev rfl rfl rfl rfl ?_
      refine T_nil ?_
      have HFN := Go.Au.firstNe_next hfn h206
      have S221 := S205.drop 1
      have S222 := S221.drop 0
      exact ⟨(Go.Au.ups (Go.Au.rowP l) j).length - (c + 1), [(4, .pointer (some ⟨b1, 0, none⟩)), (6, .slice a7 (Go.Au.lg l.length + 1) c8), (7, .slice a17 (Go.Au.lg m.length + 1) c18), (9, .int .i64 ((((j + 1) : Nat) : Int) - 1)), (10, .int .i64 ((2 * (c + 1) : Nat) : Int))], by omega, ⟨rfl, rfl, rfl, (congrArg (fun z => some (Value.int .i64 z)) (by omega)), (congrArg (fun z => some (Value.int .i64 z)) (by omega)), trivial⟩, c + 1, G74, rfl, (by omega), (by exact HFN), rfl, hl75, S222⟩
    refine W_exit ?_
    refine W_region ?_
    refine T_pev rfl rfl rfl rfl ?_
    refine T_ari rfl rfl rfl rfl (by omega) ?_
    refine T_pev rfl rfl rfl rfl ?_
    refine T_nil ?_
    have hc : c = (Go.Au.ups (Go.Au.rowP l) j).length / 2 := by omega
    rw [hc] at hfn
    have HEQ := hinv.trans (Go.Au.unl_down hfn)
    exact ⟨1 + j, [(4, .pointer (some ⟨b1, 0, none⟩)), (6, .slice a7 (Go.Au.lg l.length + 1) c8), (7, .slice a17 (Go.Au.lg m.length + 1) c18), (9, .int .i64 (((j : Nat) : Int) - 1))], by omega, ⟨rfl, rfl, rfl, (congrArg (fun z => some (Value.int .i64 z)) (by omega)), trivial⟩, j, G74, rfl, (by omega), (by exact HEQ), rfl, (hl68.trans hl75), S77⟩
  refine W_exit ?_
  refine W_seq ?_
  refine W_region ?_
  refine T_buildS (cells := #[.slice none 0 0, .slice none 0 0]) rfl rfl rfl rfl rfl rfl rfl rfl rfl rfl ?_
  refine T_storeFS 0 S70 (fun _ _ => trivial) rfl rfl rfl rfl rfl rfl rfl rfl rfl (by first | rfl | simp [hVs, *]) (by first | rfl | simp [hVs, *]) (one_all rfl) fun w223 S224 => ?_
  refine T_pev rfl rfl rfl rfl ?_
  refine T_nil ?_
  refine W_ret ?_
  refine ⟨_, ⟨_, _, _, rfl, rfl, run_loadVarA rfl rfl (by first | rfl | simp [hVs, *]) (S224.cells 0 rfl), ⟨_, _, rfl, rfl, rfl⟩⟩, ?_⟩
  obtain rfl : k = 0 := by omega
  have hno : (Go.Au.unlike l m) = none := Go.Au.unlike_eq hlm hroot hinv
  rw [hno]
  exact ⟨none, 0, none, 0, rfl, nilB _, nilB _, S224.below⟩


set_option maxHeartbeats 2000000 in
theorem unlikeR_ok {H : Hp} {w : World} (hH : H.le (hw w)) {l : List (List UInt8)} {aa0 : Option Addr} {nn0 cc0 : Nat} (hv : RdH H (.slice aa0 nn0 cc0) 32 l) {m : List (List UInt8)} {aa1 : Option Addr} {nn1 cc1 : Nat} (hu : RdH H (.slice aa1 nn1 cc1) 32 m) (hb : l.length ≤ 1024) (hb2 : m.length ≤ 1024) :
    Calls Tryd.prog 29 #[.slice aa0 nn0 cc0, .slice aa1 nn1 cc1] w fun e w' => ∃ a1 c1 a2 c2, e = .returned (.tuple #[.agg #[.slice a1 (Go.Au.brA (Go.Au.unlike l m)).length c1, .slice a2 (Go.Au.brB (Go.Au.unlike l m)).length c2], .bool (Go.Au.unlike l m).isSome]) ∧ Rd (F.ext H w.heap.size w') (.slice a1 (Go.Au.brA (Go.Au.unlike l m)).length c1) (Go.Au.brA (Go.Au.unlike l m)).length 1 ((Go.Au.brA (Go.Au.unlike l m)).map bV) ∧ Rd (F.ext H w.heap.size w') (.slice a2 (Go.Au.brB (Go.Au.unlike l m)).length c2) (Go.Au.brB (Go.Au.unlike l m)).length 1 ((Go.Au.brB (Go.Au.unlike l m)).map bV) ∧ Below w.heap.size w w' := by
  obtain rfl : nn0 = l.length := hv.len
  have hvcap : l.length ≤ cc0 := hv.2.capOf
  obtain rfl : nn1 = m.length := hu.len
  have hucap : m.length ≤ cc1 := hu.2.capOf
  have hlg := Go.Au.lg_le (n := l.length) (m := 10) (by omega)
  refine enter2 _ Tryd.func29 rfl Tryd.ntmps29 Tryd.results29 rfl ?_
  have S0 := St.start w hH
  refine W_seq ?_
  refine W_region ?_
  refine T_allocS S0 (fun _ _ => trivial) rfl rfl rfl rfl rfl rfl rfl fun b1 w2 S3 => ?_
  refine T_pev rfl rfl rfl rfl ?_
  refine T_nil ?_
  refine W_seq ?_
  refine W_seq ?_
  refine W_region ?_
  refine T_pev rfl rfl rfl rfl ?_
  refine T_pev rfl rfl rfl rfl ?_
  refine T_pev rfl rfl rfl rfl ?_
  refine T_pev rfl rfl rfl rfl ?_
  refine T_pev rfl rfl rfl rfl ?_
  refine T_pev rfl rfl rfl rfl ?_
  refine T_part (t := 18) rfl (List.cons_ne_nil _ _) (fun h4' => ?_) (fun h4' => ?_)
  · have h4 := of_ndec_t h4'
    refine T_no rfl rfl rfl rfl rfl rfl ?_
    refine T_no rfl rfl rfl rfl rfl rfl ?_
    refine T_no rfl rfl rfl rfl rfl rfl ?_
    refine T_pev rfl rfl rfl rfl ?_
    refine T_pev rfl rfl rfl rfl ?_
    refine T_no rfl rfl rfl rfl rfl rfl ?_
    refine T_no rfl rfl rfl rfl rfl rfl ?_
    refine T_no rfl rfl rfl rfl rfl rfl ?_
    refine T_no rfl rfl rfl rfl rfl rfl ?_
    refine T_no rfl rfl rfl rfl rfl rfl ?_
    refine T_pev rfl rfl rfl rfl ?_
    refine T_nil ?_
    refine W_cond_true rfl ?_
    refine W_seq ?_
    refine W_region ?_
    refine T_buildS (cells := #[.slice none 0 0, .slice none 0 0]) rfl rfl rfl rfl rfl rfl rfl rfl rfl rfl ?_
    refine T_storeFS 0 S3 (fun _ _ => trivial) rfl rfl rfl rfl rfl rfl rfl rfl rfl (by first | rfl | simp [hVs, *]) (by first | rfl | simp [hVs, *]) (one_all rfl) fun w5 S6 => ?_
    refine T_pev rfl rfl rfl rfl ?_
    refine T_nil ?_
    refine W_ret ?_
    refine ⟨_, ⟨_, _, _, rfl, rfl, run_loadVarA rfl rfl (by first | rfl | simp [hVs, *]) (S6.cells 0 rfl), ⟨_, _, rfl, rfl, rfl⟩⟩, ?_⟩
    have hno : (Go.Au.unlike l m) = none := Go.Au.unlike_no1 (by omega)
    rw [hno]
    exact ⟨none, 0, none, 0, rfl, nilB _, nilB _, S6.below⟩
  have h4 := of_ndec_f h4'
  refine T_yes rfl rfl rfl ?_ rfl
  refine T_pev rfl rfl rfl rfl ?_
  refine T_yes rfl rfl rfl ?_ rfl
  refine T_pev rfl rfl rfl rfl ?_
  refine T_yes rfl rfl rfl ?_ rfl
  refine T_callS rfl rfl g_aumbry_aumbryref07_same rfl rfl rfl rfl ((sameRef_ok S3.le hv hu (by first | omega | (simp; done) | (simp only [List.length_take, List.length_drop]; omega))).mono ?_)
  rintro e w8 ⟨rfl, hB7⟩
  have S9 := S3.call hB7
  refine ⟨_, rfl, trivial, ?_⟩
  refine T_pev rfl rfl rfl rfl ?_
  refine T_pev rfl rfl rfl rfl ?_
  refine T_part (t := 23) rfl (List.cons_ne_nil _ _) (fun h10' => ?_) (fun h10' => ?_)
  · have h10 := of_decide_eq_true h10'
    refine T_no rfl rfl rfl rfl rfl rfl ?_
    refine T_no rfl rfl rfl rfl rfl rfl ?_
    refine T_no rfl rfl rfl rfl rfl rfl ?_
    refine T_no rfl rfl rfl rfl rfl rfl ?_
    refine T_no rfl rfl rfl rfl rfl rfl ?_
    refine T_pev rfl rfl rfl rfl ?_
    refine T_nil ?_
    refine W_cond_true rfl ?_
    refine W_seq ?_
    refine W_region ?_
    refine T_buildS (cells := #[.slice none 0 0, .slice none 0 0]) rfl rfl rfl rfl rfl rfl rfl rfl rfl rfl ?_
    refine T_storeFS 0 S9 (fun _ _ => trivial) rfl rfl rfl rfl rfl rfl rfl rfl rfl (by first | rfl | simp [hVs, *]) (by first | rfl | simp [hVs, *]) (one_all rfl) fun w11 S12 => ?_
    refine T_pev rfl rfl rfl rfl ?_
    refine T_nil ?_
    refine W_ret ?_
    refine ⟨_, ⟨_, _, _, rfl, rfl, run_loadVarA rfl rfl (by first | rfl | simp [hVs, *]) (S12.cells 0 rfl), ⟨_, _, rfl, rfl, rfl⟩⟩, ?_⟩
    have hno : (Go.Au.unlike l m) = none := (by rw [h10]; exact Go.Au.unlike_self _)
    rw [hno]
    exact ⟨none, 0, none, 0, rfl, nilB _, nilB _, S12.below⟩
  have h10 := of_decide_eq_false h10'
  refine T_yes rfl rfl rfl ?_ rfl
  refine T_pev rfl rfl rfl rfl ?_
  refine T_yes rfl rfl rfl ?_ rfl
  refine T_callS rfl rfl g_aumbry_aumbryref07_Root rfl rfl rfl rfl ((rootR_ok S9.le hv (by omega)).mono ?_)
  rintro e w14 ⟨rfl, hB13⟩
  have S15 := S9.call hB13
  refine ⟨_, rfl, trivial, ?_⟩
  refine T_yes rfl rfl rfl ?_ rfl
  refine T_pev rfl rfl rfl rfl ?_
  refine T_yes rfl rfl rfl ?_ rfl
  refine T_callS rfl rfl g_aumbry_aumbryref07_Root rfl rfl rfl rfl ((rootR_ok S15.le hu (by omega)).mono ?_)
  rintro e w17 ⟨rfl, hB16⟩
  have S18 := S15.call hB16
  refine ⟨_, rfl, trivial, ?_⟩
  refine T_yes rfl rfl rfl ?_ rfl
  refine T_neB (xs := Go.Au.root l) (ys := Go.Au.root m) rfl rfl rfl rfl rfl rfl rfl rfl rfl rfl rfl (Go.Au.root_len hv.1) (Go.Au.root_len hu.1) ?_
  refine T_pev rfl rfl rfl rfl ?_
  refine T_nil ?_
  refine W_cond_not rfl (fun h19 => ?_) (fun h19 => ?_)
  · refine W_seq ?_
    refine W_region ?_
    refine T_buildS (cells := #[.slice none 0 0, .slice none 0 0]) rfl rfl rfl rfl rfl rfl rfl rfl rfl rfl ?_
    refine T_storeFS 0 S18 (fun _ _ => trivial) rfl rfl rfl rfl rfl rfl rfl rfl rfl (by first | rfl | simp [hVs, *]) (by first | rfl | simp [hVs, *]) (one_all rfl) fun w20 S21 => ?_
    refine T_pev rfl rfl rfl rfl ?_
    refine T_nil ?_
    refine W_ret ?_
    refine ⟨_, ⟨_, _, _, rfl, rfl, run_loadVarA rfl rfl (by first | rfl | simp [hVs, *]) (S21.cells 0 rfl), ⟨_, _, rfl, rfl, rfl⟩⟩, ?_⟩
    have hno : (Go.Au.unlike l m) = none := Go.Au.unlike_no2 h19
    rw [hno]
    exact ⟨none, 0, none, 0, rfl, nilB _, nilB _, S21.below⟩
  refine W_skip ?_
  refine W_seq ?_
  have hlm : l.length = m.length := by omega
  have hroot : Go.Au.root l = Go.Au.root m := h19
  refine W_region ?_
  refine T_pev rfl rfl rfl rfl ?_
  refine T_pev rfl rfl rfl rfl ?_
  refine T_nil ?_
  refine W_seq ?_
  refine W_seq ?_
  refine W_region ?_
  refine T_pev rfl rfl rfl rfl ?_
  refine T_callS rfl rfl g_aumbry_aumbryref07_row rfl rfl rfl rfl ((rowR_ok S18.le hv (by omega)).mono ?_)
  rintro e w27 ⟨a22, c23, hc24, rfl, ho25, hB26⟩
  have S28 := S18.own hB26 ho25
  refine ⟨_, rfl, trivial, ?_⟩
  refine T_pev rfl rfl rfl rfl ?_
  refine T_callS rfl rfl g_aumbry_aumbryref07_row rfl rfl rfl rfl ((rowR_ok S28.le hu (by omega)).mono ?_)
  rintro e w34 ⟨a29, c30, hc31, rfl, ho32, hB33⟩
  have S35 := S28.own hB33 ho32
  refine ⟨_, rfl, trivial, ?_⟩
  refine T_pev rfl rfl rfl rfl ?_
  refine T_pev rfl rfl rfl rfl ?_
  refine T_nil ?_
  refine W_block ?_
  obtain ⟨G37, hl38, S36, r39⟩ := S35.stillRow 1 rfl
  have r40 := RdH.mk (Go.Au.rowP_all hv.1) (by decide) r39
  obtain ⟨G42, hl43, S41, r44⟩ := S36.stillRow 0 rfl
  have r45 := RdH.mk (Go.Au.rowP_all hu.1) (by decide) r44
  have S46 := S41.nilRow 23 1
  have rs47 := RdsH.nil G42
  have S48 := S46.nilRow 23 1
  have rs49 := RdsH.nil G42
  refine W_loop (fun M ρ w' => ∃ (k : Nat) (a52 : Option Addr) (c53 : Nat) (hs55 : List Value) (a57 : Option Addr) (c58 : Nat) (hs60 : List Value) (a62 : Option Addr) (nn63 c64 : Nat) (a66 : Option Addr) (nn67 c68 : Nat) (G50 : Hp), M = (Go.Au.lg l.length) - k ∧ k ≤ (Go.Au.lg l.length) ∧ ρ = [(4, .pointer (some ⟨b1, 0, none⟩)), (6, .slice a52 k c53), (7, .slice a57 k c58), (8, .slice a62 nn63 c64), (9, .slice a66 nn67 c68)] ∧ G42.le G50 ∧ St w H G50 [.row 23 1 (.slice a57 k c58) k hs60, .row 23 1 (.slice a52 k c53) k hs55, .blk b1 (.agg #[.slice none 0 0, .slice none 0 0] : Value).cells 45] w' ∧ RdsH G50 hs55 (Go.Au.levels (Go.Au.rowP l) k) ∧ k ≤ c53 ∧ RdsH G50 hs60 (Go.Au.levels (Go.Au.rowP m) k) ∧ k ≤ c58 ∧ RdH G50 (.slice a62 nn63 c64) 32 (Go.Au.ups (Go.Au.rowP l) k) ∧ RdH G50 (.slice a66 nn67 c68) 32 (Go.Au.ups (Go.Au.rowP m) k))
    ((Go.Au.lg l.length) - 0) [(4, .pointer (some ⟨b1, 0, none⟩)), (6, .slice none 0 0), (7, .slice none 0 0), (8, .slice a22 (l.length + (Go.Au.padN l.length - l.length)) c23), (9, .slice a29 (m.length + (Go.Au.padN m.length - m.length)) c30)] ⟨rfl, rfl, rfl, rfl, rfl, trivial⟩ ⟨0, none, 0, _, none, 0, _, _, _, _, _, _, _, G42, rfl, (by exact Nat.zero_le _), rfl, Hp.le.refl _, S48, rs47, (Nat.le_refl _), rs49, (Nat.le_refl _), (r40.mono hl43), r45⟩ ?_
  rintro M ρ w70 ⟨k, a52, c53, hs55, a57, c58, hs60, a62, nn63, c64, a66, nn67, c68, G50, rfl, hp72, rfl, hl51, S71, rs56, hc54, rs61, hc59, hf65, hf69⟩
  obtain rfl : nn63 = (Go.Au.ups (Go.Au.rowP l) k).length := hf65.len
  obtain rfl : nn67 = (Go.Au.ups (Go.Au.rowP m) k).length := hf69.len
  have hub := Go.Au.ups_bd (k := k) hb (by assumption)
  have hul := Go.Au.ups_len (Go.Au.rowP_len l) k (by assumption)
  have hul2 := Go.Au.ups_len (Go.Au.rowP_len2 hlm) k (by assumption)
  refine W_seq ?_
  refine W_seq ?_
  refine W_region ?_
  refine T_pev rfl rfl rfl rfl ?_
  refine T_pev rfl rfl rfl rfl ?_
  refine T_pev rfl rfl rfl rfl ?_
  refine T_nil ?_
  refine W_cond_dec rfl (fun h73 => ?_) (fun h73 => ?_)
  · refine W_skip ?_
    refine W_seq ?_
    refine W_block ?_
    refine W_region ?_
    have hkm := Go.Au.ups_more (Go.Au.rowP_len l) (show k ≤ Go.Au.lg l.length by assumption) (by omega)
    refine T_pev rfl rfl rfl rfl ?_
    refine T_pev rfl rfl rfl rfl ?_
    have rs78 : RdsH G50 [.slice a62 (Go.Au.ups (Go.Au.rowP l) k).length c64] [Go.Au.ups (Go.Au.rowP l) k] := RdsH.cons hf65 (RdsH.nil _)
    refine T_litS [.slice a62 (Go.Au.ups (Go.Au.rowP l) k).length c64] rfl rfl rfl rfl rfl rfl rfl rfl rfl rfl rfl rfl rfl (by simp [Value.cells]; rfl) rfl fun a74 w75 hB76 ho77 => ?_
    have S79 := S71.own hB76 ho77
    refine ⟨trivial, ?_⟩
    have hD80 : (Go.Au.levels (Go.Au.rowP l) k ++ [Go.Au.ups (Go.Au.rowP l) k]) = Go.Au.levels (Go.Au.rowP l) (k + 1) := (Go.Au.levels_snoc _ _)
    refine T_appendS 2 (k + 1) _ S79 (fun _ _ => trivial) rfl rfl rfl rfl rfl rfl rfl rfl rfl rfl rfl rfl rfl rfl (S79.rd 0 rfl) rs78.one (by first | rfl | (simp; done) | (simp; omega) | omega) rfl (by unfold maxLen; omega) (by show _ * 24 ≤ _; omega) fun a81 c82 w83 hc84 S85 => ?_
    have rs86 := RdsH.append rs56 rs78
    rw [hD80] at rs86
    refine T_pev rfl rfl rfl rfl ?_
    refine T_pev rfl rfl rfl rfl ?_
    have rs91 : RdsH G50 [.slice a66 (Go.Au.ups (Go.Au.rowP m) k).length c68] [Go.Au.ups (Go.Au.rowP m) k] := RdsH.cons hf69 (RdsH.nil _)
    refine T_litS [.slice a66 (Go.Au.ups (Go.Au.rowP m) k).length c68] rfl rfl rfl rfl rfl rfl rfl rfl rfl rfl rfl rfl rfl (by simp [Value.cells]; rfl) rfl fun a87 w88 hB89 ho90 => ?_
    have S92 := S85.own hB89 ho90
    refine ⟨trivial, ?_⟩
    have hD93 : (Go.Au.levels (Go.Au.rowP m) k ++ [Go.Au.ups (Go.Au.rowP m) k]) = Go.Au.levels (Go.Au.rowP m) (k + 1) := (Go.Au.levels_snoc _ _)
    refine T_appendS 2 (k + 1) _ S92 (fun _ _ => trivial) rfl rfl rfl rfl rfl rfl rfl rfl rfl rfl rfl rfl rfl rfl (S92.rd 0 rfl) rs91.one (by first | rfl | (simp; done) | (simp; omega) | omega) rfl (by unfold maxLen; omega) (by show _ * 24 ≤ _; omega) fun a94 c95 w96 hc97 S98 => ?_
    have rs99 := RdsH.append rs61 rs91
    rw [hD93] at rs99
    refine T_pev rfl rfl rfl rfl ?_
    refine T_pev rfl rfl rfl rfl ?_
    refine T_nil ?_
    refine W_region ?_
    refine T_pev rfl rfl rfl rfl ?_
    refine T_callS rfl rfl g_aumbry_aumbryref07_up rfl rfl rfl rfl ((upR_ok S98.le hf65 (by omega)).mono ?_)
    rintro e w105 ⟨a100, c101, hc102, rfl, ho103, hB104⟩
    have S106 := S98.own hB104 ho103
    refine ⟨_, rfl, trivial, ?_⟩
    refine T_pev rfl rfl rfl rfl ?_
    refine T_callS rfl rfl g_aumbry_aumbryref07_up rfl rfl rfl rfl ((upR_ok S106.le hf69 (by omega)).mono ?_)
    rintro e w112 ⟨a107, c108, hc109, rfl, ho110, hB111⟩
    have S113 := S106.own hB111 ho110
    refine ⟨_, rfl, trivial, ?_⟩
    refine T_pev rfl rfl rfl rfl ?_
    refine T_pev rfl rfl rfl rfl ?_
    refine T_nil ?_
    obtain ⟨G115, hl116, S114, r117⟩ := S113.stillRow 1 rfl
    have r118 := RdH.mk (Go.Au.upTo_all _ _) (by decide) r117
    obtain ⟨G120, hl121, S119, r122⟩ := S114.stillRow 0 rfl
    have r123 := RdH.mk (Go.Au.upTo_all _ _) (by decide) r122
    have S124 := S119.drop 1
    have S125 := S124.drop 0
    exact ⟨(Go.Au.lg l.length) - (k + 1), [(4, .pointer (some ⟨b1, 0, none⟩)), (6, .slice a81 (k + 1) c82), (7, .slice a94 (k + 1) c95), (8, .slice a100 ((Go.Au.ups (Go.Au.rowP l) k).length / 2) c101), (9, .slice a107 ((Go.Au.ups (Go.Au.rowP m) k).length / 2) c108)], by omega, ⟨rfl, rfl, rfl, rfl, rfl, trivial⟩, k + 1, a81, c82, _, a94, c95, _, _, _, _, _, _, _, G120, rfl, (by omega), rfl, (hl51.trans (hl116.trans hl121)), S125, (rs86.mono (hl116.trans hl121)), hc84, (rs99.mono (hl116.trans hl121)), hc97, (r118.mono hl121), r123⟩
  refine W_exit ?_
  refine W_seq ?_
  refine W_seq ?_
  refine W_region ?_
  obtain rfl : k = Go.Au.lg l.length := Go.Au.ups_done (Go.Au.rowP_len l) (by assumption) (by omega)
  refine T_pev rfl rfl rfl rfl ?_
  refine T_pev rfl rfl rfl rfl ?_
  refine T_ari rfl rfl rfl rfl (by omega) ?_
  refine T_pev rfl rfl rfl rfl ?_
  refine T_nil ?_
  refine W_block ?_
  obtain ⟨G127, hl128, S126, r129⟩ := S71.stillRow 1 rfl
  have r130 := RdLH.mk r129 (rs56.mono hl128)
  obtain ⟨G132, hl133, S131, r134⟩ := S126.stillRow 0 rfl
  have r135 := RdLH.mk r134 (rs61.mono (hl128.trans hl133))
  refine W_loop (fun M ρ w' => ∃ (k : Nat) (G136 : Hp), M = 1 + k ∧ k ≤ (Go.Au.lg l.length) ∧ Go.Au.unl (Go.Au.rowP l) (Go.Au.rowP m) (Go.Au.lg l.length) = Go.Au.unl (Go.Au.rowP l) (Go.Au.rowP m) k ∧ Go.Au.ups (Go.Au.rowP l) k = Go.Au.ups (Go.Au.rowP m) k ∧ ρ = [(4, .pointer (some ⟨b1, 0, none⟩)), (6, .slice a52 (Go.Au.lg l.length) c53), (7, .slice a57 (Go.Au.lg l.length) c58), (10, .int .i64 (((k : Nat) : Int) - 1))] ∧ G132.le G136 ∧ St w H G136 [.blk b1 (.agg #[.slice none 0 0, .slice none 0 0] : Value).cells 45] w')
    (1 + (Go.Au.lg l.length)) [(4, .pointer (some ⟨b1, 0, none⟩)), (6, .slice a52 (Go.Au.lg l.length) c53), (7, .slice a57 (Go.Au.lg l.length) c58), (10, .int .i64 ((((Go.Au.lg l.length) : Nat) : Int) - 1))] ⟨rfl, rfl, rfl, (congrArg (fun z => some (Value.int .i64 z)) (by omega)), trivial⟩ ⟨(Go.Au.lg l.length), G132, rfl, (by omega), (by rfl), (by exact Go.Au.top_one hlm hroot), rfl, Hp.le.refl _, S131⟩ ?_
  rintro M ρ w138 ⟨k, G136, rfl, hp140, hinv, hE, rfl, hl137, S139⟩
  refine W_seq ?_
  refine W_seq ?_
  refine W_region ?_
  refine T_pev rfl rfl rfl rfl ?_
  refine T_pev rfl rfl rfl rfl ?_
  refine T_nil ?_
  refine W_cond_dec rfl (fun h143 => ?_) (fun h143 => ?_)
  · refine W_skip ?_
    refine W_seq ?_
    refine W_block ?_
    refine W_seq ?_
    obtain ⟨j, rfl⟩ : ∃ j, k = j + 1 := ⟨k - 1, by omega⟩
    have hRj := levels_lt (Go.Au.rowP l) (n := (Go.Au.lg l.length)) (k := j) (by omega)
    have hSj := levels_lt (Go.Au.rowP m) (n := (Go.Au.lg l.length)) (k := j) (by omega)
    have hRl := Go.Au.ups_len (Go.Au.rowP_len l) j (by omega)
    have hSl := Go.Au.ups_len (Go.Au.rowP_len2 hlm) j (by omega)
    have hev := Go.Au.ups_even (Go.Au.rowP_len l) (show j < (Go.Au.lg l.length) by omega)
    have hub := Go.Au.ups_bd (l := l) (k := j) hb (by omega)
    have hRjl : ((Go.Au.levels (Go.Au.rowP l) (Go.Au.lg l.length)).getD j []).length = (Go.Au.ups (Go.Au.rowP l) j).length := by rw [hRj]
    have hSjl : ((Go.Au.levels (Go.Au.rowP m) (Go.Au.lg l.length)).getD j []).length = (Go.Au.ups (Go.Au.rowP l) j).length := by rw [hSj, hRl, hSl]
    have hll := Go.Au.levels_len (Go.Au.rowP l) (Go.Au.lg l.length)
    have hlm2 := Go.Au.levels_len (Go.Au.rowP m) (Go.Au.lg l.length)
    have hSRl : (Go.Au.ups (Go.Au.rowP m) j).length = (Go.Au.ups (Go.Au.rowP l) j).length := by rw [hRl, hSl]
    refine W_region ?_
    refine T_pev rfl rfl rfl rfl ?_
    refine T_nil ?_
    refine W_block ?_
    refine W_loop (fun M ρ w' => ∃ (c : Nat) (G144 : Hp), M = (Go.Au.ups (Go.Au.rowP l) j).length - c ∧ 2 * c ≤ (Go.Au.ups (Go.Au.rowP l) j).length ∧ Go.Au.firstNe (Go.Au.prs (Go.Au.ups (Go.Au.rowP l) j)) (Go.Au.prs (Go.Au.ups (Go.Au.rowP m) j)) c = none ∧ ρ = [(4, .pointer (some ⟨b1, 0, none⟩)), (6, .slice a52 (Go.Au.lg l.length) c53), (7, .slice a57 (Go.Au.lg l.length) c58), (10, .int .i64 ((((j + 1) : Nat) : Int) - 1)), (11, .int .i64 ((2 * c : Nat) : Int))] ∧ G136.le G144 ∧ St w H G144 [.blk b1 (.agg #[.slice none 0 0, .slice none 0 0] : Value).cells 45] w')
      ((Go.Au.ups (Go.Au.rowP l) j).length - 0) [(4, .pointer (some ⟨b1, 0, none⟩)), (6, .slice a52 (Go.Au.lg l.length) c53), (7, .slice a57 (Go.Au.lg l.length) c58), (10, .int .i64 ((((j + 1) : Nat) : Int) - 1)), (11, .int .i64 ((2 * 0 : Nat) : Int))] ⟨rfl, rfl, rfl, (congrArg (fun z => some (Value.int .i64 z)) (by omega)), (congrArg (fun z => some (Value.int .i64 z)) (by omega)), trivial⟩ ⟨0, G136, rfl, (by omega), (by rfl), rfl, Hp.le.refl _, S139⟩ ?_
    rintro M ρ w146 ⟨c, G144, rfl, hp148, hfn, rfl, hl145, S147⟩
    refine W_seq ?_
    refine W_seq ?_
    refine W_region ?_
    refine T_pev rfl rfl rfl rfl ?_
    refine T_ari rfl rfl rfl rfl (by omega) ?_
    refine T_pev rfl rfl rfl rfl ?_
    refine T_pev rfl rfl rfl rfl ?_
    obtain ⟨hs153, r154, r155⟩ := (r130.mono (hl133.trans (hl137.trans hl145)))
    refine T_idxR j r154 rfl rfl rfl rfl rfl rfl rfl rfl rfl (by omega) (by omega) fun b150 o151 hc152 => ?_
    obtain ⟨a158, c159, hc161, hv157, r160⟩ := r155.at j (by omega)
    have hc162 := hc152 0 (.slice a158 ((Go.Au.levels (Go.Au.rowP l) (Go.Au.lg l.length)).getD j []).length c159) (by simpa using hv157)
    simp only [Nat.add_zero] at hc162
    refine T_loadG S147 hc162 rfl rfl rfl rfl rfl rfl rfl ?_
    refine T_pev rfl rfl rfl rfl ?_
    refine T_pev rfl rfl rfl rfl ?_
    refine T_nil ?_
    refine W_cond_dec rfl (fun h163 => ?_) (fun h163 => ?_)
    · refine W_skip ?_
      refine W_seq ?_
      refine W_block ?_
      refine W_seq ?_
      refine W_tree (planF Tryd.prog G144 [70, 73, 77, 81, 86, 89, 93, 97]) (.step 0 (.step 1 (.step 2 (.step 3 (.step 4 (.step 5 (.step 6 (.step 7 (.step 8 (.step 9 (.step 10 (.step 11 (.step 12 (.step 13 (.step 14 (.step 16 (.step 17 (.step 18 (.step 19 (.step 20 (.step 21 (.step 22 (.step 23 (.step 24 (.step 25 (.step 26 (.step 27 (.step 28 (.step 29 (.step 30 (.fork 15 33 (.fork 31 33 (.step 32 (.step 33 (.step 34 .done))) (.step 31 (.step 32 (.step 34 .done)))) (.step 15 (.step 31 (.step 32 (.step 34 .done))))))))))))))))))))))))))))))))))) rfl (by kernel_rfl) S147.le ?_
      have S164 := S147.drew
      refine TT_step rfl ?_
      refine T_pev rfl rfl rfl rfl ?_
      refine T_nil ?_
      refine TT_step rfl ?_
      refine T_pev rfl rfl rfl rfl ?_
      refine T_nil ?_
      refine TT_step rfl ?_
      obtain ⟨hs168, r169, r170⟩ := (r130.mono (hl133.trans (hl137.trans hl145)))
      refine T_idxR j r169 rfl rfl rfl rfl rfl rfl rfl rfl rfl (by omega) (by omega) fun b165 o166 hc167 => ?_
      obtain ⟨a173, c174, hc176, hv172, r175⟩ := r170.at j (by omega)
      have hc177 := hc167 0 (.slice a173 ((Go.Au.levels (Go.Au.rowP l) (Go.Au.lg l.length)).getD j []).length c174) (by simpa using hv172)
      simp only [Nat.add_zero] at hc177
      refine T_nil ?_
      refine TT_step rfl ?_
      refine T_loadGP (fun _ h => h) hc177 rfl rfl rfl rfl rfl rfl rfl ?_
      refine T_nil ?_
      refine TT_step rfl ?_
      refine T_pev rfl rfl rfl rfl ?_
      refine T_nil ?_
      refine TT_step rfl ?_
      refine T_idxR (2 * c) r175.2 rfl rfl rfl rfl rfl rfl rfl rfl rfl (by omega) (by omega) fun b178 o179 hc180 => ?_
      have hc181 := cells_h r175.1 (2 * c) (by omega) hc180
      have hl182 := len_h r175.1 (2 * c) (by omega)
      refine T_nil ?_
      refine TT_step rfl ?_
      refine T_loadGAP _ (fun _ h => h) hc181 rfl rfl rfl rfl rfl rfl rfl rfl (hVs hl182) ?_
      refine T_nil ?_
      refine TT_step rfl ?_
      refine T_pev rfl rfl rfl rfl ?_
      refine T_nil ?_
      refine TT_step rfl ?_
      refine T_pev rfl rfl rfl rfl ?_
      refine T_nil ?_
      refine TT_step rfl ?_
      obtain ⟨hs186, r187, r188⟩ := (r130.mono (hl133.trans (hl137.trans hl145)))
      refine T_idxR j r187 rfl rfl rfl rfl rfl rfl rfl rfl rfl (by omega) (by omega) fun b183 o184 hc185 => ?_
      obtain ⟨a191, c192, hc194, hv190, r193⟩ := r188.at j (by omega)
      have hc195 := hc185 0 (.slice a191 ((Go.Au.levels (Go.Au.rowP l) (Go.Au.lg l.length)).getD j []).length c192) (by simpa using hv190)
      simp only [Nat.add_zero] at hc195
      refine T_nil ?_
      refine TT_step rfl ?_
      refine T_loadGP (fun _ h => h) hc195 rfl rfl rfl rfl rfl rfl rfl ?_
      refine T_nil ?_
      refine TT_step rfl ?_
      refine T_pev rfl rfl rfl rfl ?_
      refine T_nil ?_
      refine TT_step rfl ?_
      refine T_ari rfl rfl rfl rfl (by omega) ?_
      refine T_nil ?_
      refine TT_step rfl ?_
      refine T_idxR ((2 * c) + 1) r193.2 rfl rfl rfl rfl rfl rfl rfl rfl rfl (by omega) (by omega) fun b196 o197 hc198 => ?_
      have hc199 := cells_h r193.1 ((2 * c) + 1) (by omega) hc198
      have hl200 := len_h r193.1 ((2 * c) + 1) (by omega)
      refine T_nil ?_
      refine TT_step rfl ?_
      refine T_loadGAP _ (fun _ h => h) hc199 rfl rfl rfl rfl rfl rfl rfl rfl (hVs hl200) ?_
      refine T_nil ?_
      refine TT_step rfl ?_
      refine T_pev rfl rfl rfl rfl ?_
      refine T_nil ?_
      refine TT_step rfl ?_
      refine T_pev rfl rfl rfl rfl ?_
      refine T_nil ?_
      refine TT_step rfl ?_
      obtain ⟨hs204, r205, r206⟩ := (r135.mono (hl137.trans hl145))
      refine T_idxR j r205 rfl rfl rfl rfl rfl rfl rfl rfl rfl (by omega) (by omega) fun b201 o202 hc203 => ?_
      obtain ⟨a209, c210, hc212, hv208, r211⟩ := r206.at j (by omega)
      have hc213 := hc203 0 (.slice a209 ((Go.Au.levels (Go.Au.rowP m) (Go.Au.lg l.length)).getD j []).length c210) (by simpa using hv208)
      simp only [Nat.add_zero] at hc213
      refine T_nil ?_
      refine TT_step rfl ?_
      refine T_loadGP (fun _ h => h) hc213 rfl rfl rfl rfl rfl rfl rfl ?_
      refine T_nil ?_
      refine TT_step rfl ?_
      refine T_pev rfl rfl rfl rfl ?_
      refine T_nil ?_
      refine TT_step rfl ?_
      refine T_idxR (2 * c) r211.2 rfl rfl rfl rfl rfl rfl rfl rfl rfl (by omega) (by omega) fun b214 o215 hc216 => ?_
      have hc217 := cells_h r211.1 (2 * c) (by omega) hc216
      have hl218 := len_h r211.1 (2 * c) (by omega)
      refine T_nil ?_
      refine TT_step rfl ?_
      refine T_loadGAP _ (fun _ h => h) hc217 rfl rfl rfl rfl rfl rfl rfl rfl (hVs hl218) ?_
      refine T_nil ?_
      refine TT_step rfl ?_
      refine T_pev rfl rfl rfl rfl ?_
      refine T_nil ?_
      refine TT_step rfl ?_
      refine T_pev rfl rfl rfl rfl ?_
      refine T_nil ?_
      refine TT_step rfl ?_
      obtain ⟨hs222, r223, r224⟩ := (r135.mono (hl137.trans hl145))
      refine T_idxR j r223 rfl rfl rfl rfl rfl rfl rfl rfl rfl (by omega) (by omega) fun b219 o220 hc221 => ?_
      obtain ⟨a227, c228, hc230, hv226, r229⟩ := r224.at j (by omega)
      have hc231 := hc221 0 (.slice a227 ((Go.Au.levels (Go.Au.rowP m) (Go.Au.lg l.length)).getD j []).length c228) (by simpa using hv226)
      simp only [Nat.add_zero] at hc231
      refine T_nil ?_
      refine TT_step rfl ?_
      refine T_loadGP (fun _ h => h) hc231 rfl rfl rfl rfl rfl rfl rfl ?_
      refine T_nil ?_
      refine TT_step rfl ?_
      refine T_pev rfl rfl rfl rfl ?_
      refine T_nil ?_
      refine TT_step rfl ?_
      refine T_ari rfl rfl rfl rfl (by omega) ?_
      refine T_nil ?_
      refine TT_step rfl ?_
      refine T_idxR ((2 * c) + 1) r229.2 rfl rfl rfl rfl rfl rfl rfl rfl rfl (by omega) (by omega) fun b232 o233 hc234 => ?_
      have hc235 := cells_h r229.1 ((2 * c) + 1) (by omega) hc234
      have hl236 := len_h r229.1 ((2 * c) + 1) (by omega)
      refine T_nil ?_
      refine TT_step rfl ?_
      refine T_loadGAP _ (fun _ h => h) hc235 rfl rfl rfl rfl rfl rfl rfl rfl (hVs hl236) ?_
      refine T_nil ?_
      refine TT_fork rfl rfl ?_ ?_
      · refine T_callS rfl rfl g_aumbry_aumbryref07_nodeText rfl rfl rfl rfl ((ntextR_ok S164.le hl182 hl200).mono ?_)
        rintro e w242 ⟨a237, c238, hc239, rfl, ho240, hB241⟩
        have S243 := S164.own hB241 ho240
        refine ⟨_, rfl, (((Hp.le.refl _)).trans S243.le), ?_⟩
        refine T_nil ?_
        refine TT_fork rfl rfl ?_ ?_
        · refine T_callS rfl rfl g_aumbry_aumbryref07_nodeText rfl rfl rfl rfl ((ntextR_ok S243.le hl218 hl236).mono ?_)
          rintro e w249 ⟨a244, c245, hc246, rfl, ho247, hB248⟩
          have S250 := S243.own hB248 ho247
          refine ⟨_, rfl, (((Hp.le.refl _)).trans S250.le), ?_⟩
          refine T_nil ?_
          refine TT_step rfl ?_
          have hD1 : (Go.Au.text [110, 111, 100, 101] [((Go.Au.levels (Go.Au.rowP l) (Go.Au.lg l.length)).getD j []).getD (2 * c) [], ((Go.Au.levels (Go.Au.rowP l) (Go.Au.lg l.length)).getD j []).getD (2 * c + 1) []]) = Go.Au.textP ((Go.Au.prs (Go.Au.ups (Go.Au.rowP l) j)).getD c []) := ptext_at hRj (Go.Au.ups_all (Go.Au.rowP_all hv.1) j) (by omega)
          have hD2 : (Go.Au.text [110, 111, 100, 101] [((Go.Au.levels (Go.Au.rowP m) (Go.Au.lg l.length)).getD j []).getD (2 * c) [], ((Go.Au.levels (Go.Au.rowP m) (Go.Au.lg l.length)).getD j []).getD (2 * c + 1) []]) = Go.Au.textP ((Go.Au.prs (Go.Au.ups (Go.Au.rowP m) j)).getD c []) := ptext_at hSj (Go.Au.ups_all (Go.Au.rowP_all hu.1) j) (by omega)
          have hb1 : (Go.Au.text [110, 111, 100, 101] [((Go.Au.levels (Go.Au.rowP l) (Go.Au.lg l.length)).getD j []).getD (2 * c) [], ((Go.Au.levels (Go.Au.rowP l) (Go.Au.lg l.length)).getD j []).getD (2 * c + 1) []]).length ≤ 100000 := by rw [hD1]; exact Nat.le_trans (Nat.le_of_lt (textP_bd (Go.Au.prs_len (Go.Au.ups_all (Go.Au.rowP_all hv.1) j) (by omega)))) (by decide)
          have hb3 : (Go.Au.text [110, 111, 100, 101] [((Go.Au.levels (Go.Au.rowP m) (Go.Au.lg l.length)).getD j []).getD (2 * c) [], ((Go.Au.levels (Go.Au.rowP m) (Go.Au.lg l.length)).getD j []).getD (2 * c + 1) []]).length ≤ 100000 := by rw [hD2]; exact Nat.le_trans (Nat.le_of_lt (textP_bd (Go.Au.prs_len (Go.Au.ups_all (Go.Au.rowP_all hu.1) j) (by omega)))) (by decide)
          obtain ⟨G252, hl253, S251, r254⟩ := S250.stillRow 1 rfl
          obtain ⟨G256, hl257, S255, r258⟩ := S251.stillRow 0 rfl
          refine T_buildS (cells := #[.slice a237 ((Go.Au.text [110, 111, 100, 101] [(((Go.Au.levels (Go.Au.rowP l) (Go.Au.lg l.length)).getD j []).getD (2 * c) []), (((Go.Au.levels (Go.Au.rowP l) (Go.Au.lg l.length)).getD j []).getD ((2 * c) + 1) [])]).length) c238, .slice a244 ((Go.Au.text [110, 111, 100, 101] [(((Go.Au.levels (Go.Au.rowP m) (Go.Au.lg l.length)).getD j []).getD (2 * c) []), (((Go.Au.levels (Go.Au.rowP m) (Go.Au.lg l.length)).getD j []).getD ((2 * c) + 1) [])]).length) c245]) rfl rfl rfl rfl rfl rfl rfl rfl rfl rfl ?_
          refine T_nil ?_
          refine TT_step rfl ?_
          refine T_allocS S255 (fun _ h => ((hl253.trans hl257)).trans h) rfl rfl rfl rfl rfl rfl rfl fun b259 w260 S261 => ?_
          refine T_nil ?_
          refine TT_step rfl ?_
          refine T_storeFS 0 S261 (fun _ h => ((hl253.trans hl257)).trans h) rfl rfl rfl rfl rfl rfl rfl rfl rfl (by first | rfl | simp [hVs, *]) (by first | rfl | simp [hVs, *]) (one_all rfl) fun w262 S263 => ?_
          refine T_nil ?_
          refine TT_done ?_
          refine W_seq ?_
          refine W_region ?_
          refine T_loadFS 0 S263 rfl rfl rfl rfl rfl rfl rfl rfl rfl (by first | rfl | simp [hVs, *]) ?_
          refine T_callS rfl rfl g_aumbry_aumbryref01_Same rfl rfl rfl rfl ((isbrR_ok S263.le (r254.mono hl257) r258 hb1 hb3).mono ?_)
          rintro e w265 ⟨rfl, hB264⟩
          have S266 := S263.call hB264
          refine ⟨_, rfl, trivial, ?_⟩
          refine T_nil ?_
          refine W_cond rfl (fun h267 => ?_) (fun h267 => ?_)
          · refine W_seq ?_
            refine W_region ?_
            refine T_loadFS 0 S266 rfl rfl rfl rfl rfl rfl rfl rfl rfl (by first | rfl | simp [hVs, *]) ?_
            refine T_storeFS 1 S266 (fun _ _ => trivial) rfl rfl rfl rfl rfl rfl rfl rfl rfl (by first | rfl | simp [hVs, *]) (by first | rfl | simp [hVs, *]) (one_all rfl) fun w268 S269 => ?_
            refine T_pev rfl rfl rfl rfl ?_
            refine T_nil ?_
            refine W_ret ?_
            refine ⟨_, ⟨_, _, _, rfl, rfl, run_loadVarA rfl rfl (by first | rfl | simp [hVs, *]) (S269.cells 1 rfl), ⟨_, _, rfl, rfl, rfl⟩⟩, ?_⟩
            have hyes : (Go.Au.unlike l m) = some ((Go.Au.text [110, 111, 100, 101] [((Go.Au.levels (Go.Au.rowP l) (Go.Au.lg l.length)).getD j []).getD (2 * c) [], ((Go.Au.levels (Go.Au.rowP l) (Go.Au.lg l.length)).getD j []).getD (2 * c + 1) []]), (Go.Au.text [110, 111, 100, 101] [((Go.Au.levels (Go.Au.rowP m) (Go.Au.lg l.length)).getD j []).getD (2 * c) [], ((Go.Au.levels (Go.Au.rowP m) (Go.Au.lg l.length)).getD j []).getD (2 * c + 1) []])) := (Go.Au.unlike_eq hlm hroot (hinv.trans (Go.Au.unl_hit (Go.Au.firstNe_hit hfn (isbr_ne hD1 hD2 h267) _ (by omega))))).trans (by rw [hD1, hD2])
            exact br_end hyes (r254.mono hl257) r258 S269.fin S269.below
          refine W_skip ?_
          refine W_region ?_
          refine T_pev rfl rfl rfl rfl ?_
          refine T_ari rfl rfl rfl rfl (by omega) ?_
          refine T_pev rfl rfl rfl rfl ?_
          refine T_nil ?_
          have HFN := Go.Au.firstNe_next hfn (isbr_no hD1 hD2 ((Go.Au.level_text (Go.Au.rowP_all hv.1) (Go.Au.rowP_all hu.1) (Go.Au.rowP_len l) (Go.Au.rowP_len2 hlm) (show j < (Go.Au.lg l.length) by omega) (by omega)).1) (Go.Au.level_break (Go.Au.rowP_all hv.1) (Go.Au.rowP_all hu.1) (Go.Au.rowP_len l) (Go.Au.rowP_len2 hlm) (show j < (Go.Au.lg l.length) by omega) hE (by omega)) h267)
          have S270 := S266.drop 0
          exact ⟨(Go.Au.ups (Go.Au.rowP l) j).length - (c + 1), [(4, .pointer (some ⟨b1, 0, none⟩)), (6, .slice a52 (Go.Au.lg l.length) c53), (7, .slice a57 (Go.Au.lg l.length) c58), (10, .int .i64 ((((j + 1) : Nat) : Int) - 1)), (11, .int .i64 ((2 * (c + 1) : Nat) : Int))], by omega, ⟨rfl, rfl, rfl, (congrArg (fun z => some (Value.int .i64 z)) (by omega)), (congrArg (fun z => some (Value.int .i64 z)) (by omega)), trivial⟩, c + 1, G256, rfl, (by omega), (by exact HFN), rfl, (hl145.trans (hl253.trans hl257)), S270⟩
        refine T_allocS S243 (fun _ h => ((Hp.le.refl _)).trans h) rfl rfl rfl rfl rfl rfl rfl fun b271 w272 S273 => ?_
        refine T_nil ?_
        refine TT_step rfl ?_
        refine T_callS rfl rfl g_aumbry_aumbryref07_nodeText rfl rfl rfl rfl ((ntextR_ok S273.le hl218 hl236).mono ?_)
        rintro e w279 ⟨a274, c275, hc276, rfl, ho277, hB278⟩
        have S280 := S273.own hB278 ho277
        refine ⟨_, rfl, (((Hp.le.refl _)).trans S280.le), ?_⟩
        refine T_nil ?_
        refine TT_step rfl ?_
        have hD1 : (Go.Au.text [110, 111, 100, 101] [((Go.Au.levels (Go.Au.rowP l) (Go.Au.lg l.length)).getD j []).getD (2 * c) [], ((Go.Au.levels (Go.Au.rowP l) (Go.Au.lg l.length)).getD j []).getD (2 * c + 1) []]) = Go.Au.textP ((Go.Au.prs (Go.Au.ups (Go.Au.rowP l) j)).getD c []) := ptext_at hRj (Go.Au.ups_all (Go.Au.rowP_all hv.1) j) (by omega)
        have hD2 : (Go.Au.text [110, 111, 100, 101] [((Go.Au.levels (Go.Au.rowP m) (Go.Au.lg l.length)).getD j []).getD (2 * c) [], ((Go.Au.levels (Go.Au.rowP m) (Go.Au.lg l.length)).getD j []).getD (2 * c + 1) []]) = Go.Au.textP ((Go.Au.prs (Go.Au.ups (Go.Au.rowP m) j)).getD c []) := ptext_at hSj (Go.Au.ups_all (Go.Au.rowP_all hu.1) j) (by omega)
        have hb1 : (Go.Au.text [110, 111, 100, 101] [((Go.Au.levels (Go.Au.rowP l) (Go.Au.lg l.length)).getD j []).getD (2 * c) [], ((Go.Au.levels (Go.Au.rowP l) (Go.Au.lg l.length)).getD j []).getD (2 * c + 1) []]).length ≤ 100000 := by rw [hD1]; exact Nat.le_trans (Nat.le_of_lt (textP_bd (Go.Au.prs_len (Go.Au.ups_all (Go.Au.rowP_all hv.1) j) (by omega)))) (by decide)
        have hb3 : (Go.Au.text [110, 111, 100, 101] [((Go.Au.levels (Go.Au.rowP m) (Go.Au.lg l.length)).getD j []).getD (2 * c) [], ((Go.Au.levels (Go.Au.rowP m) (Go.Au.lg l.length)).getD j []).getD (2 * c + 1) []]).length ≤ 100000 := by rw [hD2]; exact Nat.le_trans (Nat.le_of_lt (textP_bd (Go.Au.prs_len (Go.Au.ups_all (Go.Au.rowP_all hu.1) j) (by omega)))) (by decide)
        obtain ⟨G282, hl283, S281, r284⟩ := S280.stillRow 2 rfl
        obtain ⟨G286, hl287, S285, r288⟩ := S281.stillRow 0 rfl
        refine T_buildS (cells := #[.slice a237 ((Go.Au.text [110, 111, 100, 101] [(((Go.Au.levels (Go.Au.rowP l) (Go.Au.lg l.length)).getD j []).getD (2 * c) []), (((Go.Au.levels (Go.Au.rowP l) (Go.Au.lg l.length)).getD j []).getD ((2 * c) + 1) [])]).length) c238, .slice a274 ((Go.Au.text [110, 111, 100, 101] [(((Go.Au.levels (Go.Au.rowP m) (Go.Au.lg l.length)).getD j []).getD (2 * c) []), (((Go.Au.levels (Go.Au.rowP m) (Go.Au.lg l.length)).getD j []).getD ((2 * c) + 1) [])]).length) c275]) rfl rfl rfl rfl rfl rfl rfl rfl rfl rfl ?_
        refine T_nil ?_
        refine TT_step rfl ?_
        refine T_storeFS 0 S285 (fun _ h => ((hl283.trans hl287)).trans h) rfl rfl rfl rfl rfl rfl rfl rfl rfl (by first | rfl | simp [hVs, *]) (by first | rfl | simp [hVs, *]) (one_all rfl) fun w289 S290 => ?_
        refine T_nil ?_
        refine TT_done ?_
        refine W_seq ?_
        refine W_region ?_
        refine T_loadFS 0 S290 rfl rfl rfl rfl rfl rfl rfl rfl rfl (by first | rfl | simp [hVs, *]) ?_
        refine T_callS rfl rfl g_aumbry_aumbryref01_Same rfl rfl rfl rfl ((isbrR_ok S290.le (r284.mono hl287) r288 hb1 hb3).mono ?_)
        rintro e w292 ⟨rfl, hB291⟩
        have S293 := S290.call hB291
        refine ⟨_, rfl, trivial, ?_⟩
        refine T_nil ?_
        refine W_cond rfl (fun h294 => ?_) (fun h294 => ?_)
        · refine W_seq ?_
          refine W_region ?_
          refine T_loadFS 0 S293 rfl rfl rfl rfl rfl rfl rfl rfl rfl (by first | rfl | simp [hVs, *]) ?_
          refine T_storeFS 1 S293 (fun _ _ => trivial) rfl rfl rfl rfl rfl rfl rfl rfl rfl (by first | rfl | simp [hVs, *]) (by first | rfl | simp [hVs, *]) (one_all rfl) fun w295 S296 => ?_
          refine T_pev rfl rfl rfl rfl ?_
          refine T_nil ?_
          refine W_ret ?_
          refine ⟨_, ⟨_, _, _, rfl, rfl, run_loadVarA rfl rfl (by first | rfl | simp [hVs, *]) (S296.cells 1 rfl), ⟨_, _, rfl, rfl, rfl⟩⟩, ?_⟩
          have hyes : (Go.Au.unlike l m) = some ((Go.Au.text [110, 111, 100, 101] [((Go.Au.levels (Go.Au.rowP l) (Go.Au.lg l.length)).getD j []).getD (2 * c) [], ((Go.Au.levels (Go.Au.rowP l) (Go.Au.lg l.length)).getD j []).getD (2 * c + 1) []]), (Go.Au.text [110, 111, 100, 101] [((Go.Au.levels (Go.Au.rowP m) (Go.Au.lg l.length)).getD j []).getD (2 * c) [], ((Go.Au.levels (Go.Au.rowP m) (Go.Au.lg l.length)).getD j []).getD (2 * c + 1) []])) := (Go.Au.unlike_eq hlm hroot (hinv.trans (Go.Au.unl_hit (Go.Au.firstNe_hit hfn (isbr_ne hD1 hD2 h294) _ (by omega))))).trans (by rw [hD1, hD2])
          exact br_end hyes (r284.mono hl287) r288 S296.fin S296.below
        refine W_skip ?_
        refine W_region ?_
        refine T_pev rfl rfl rfl rfl ?_
        refine T_ari rfl rfl rfl rfl (by omega) ?_
        refine T_pev rfl rfl rfl rfl ?_
        refine T_nil ?_
        have HFN := Go.Au.firstNe_next hfn (isbr_no hD1 hD2 ((Go.Au.level_text (Go.Au.rowP_all hv.1) (Go.Au.rowP_all hu.1) (Go.Au.rowP_len l) (Go.Au.rowP_len2 hlm) (show j < (Go.Au.lg l.length) by omega) (by omega)).1) (Go.Au.level_break (Go.Au.rowP_all hv.1) (Go.Au.rowP_all hu.1) (Go.Au.rowP_len l) (Go.Au.rowP_len2 hlm) (show j < (Go.Au.lg l.length) by omega) hE (by omega)) h294)
        have S297 := S293.drop 0
        exact ⟨(Go.Au.ups (Go.Au.rowP l) j).length - (c + 1), [(4, .pointer (some ⟨b1, 0, none⟩)), (6, .slice a52 (Go.Au.lg l.length) c53), (7, .slice a57 (Go.Au.lg l.length) c58), (10, .int .i64 ((((j + 1) : Nat) : Int) - 1)), (11, .int .i64 ((2 * (c + 1) : Nat) : Int))], by omega, ⟨rfl, rfl, rfl, (congrArg (fun z => some (Value.int .i64 z)) (by omega)), (congrArg (fun z => some (Value.int .i64 z)) (by omega)), trivial⟩, c + 1, G286, rfl, (by omega), (by exact HFN), rfl, (hl145.trans (hl283.trans hl287)), S297⟩
      refine T_allocS S164 (fun _ h => ((Hp.le.refl _)).trans h) rfl rfl rfl rfl rfl rfl rfl fun b298 w299 S300 => ?_
      refine T_nil ?_
      refine TT_step rfl ?_
      refine T_callS rfl rfl g_aumbry_aumbryref07_nodeText rfl rfl rfl rfl ((ntextR_ok S300.le hl182 hl200).mono ?_)
      rintro e w306 ⟨a301, c302, hc303, rfl, ho304, hB305⟩
      have S307 := S300.own hB305 ho304
      refine ⟨_, rfl, (((Hp.le.refl _)).trans S307.le), ?_⟩
      refine T_nil ?_
      refine TT_step rfl ?_
      refine T_callS rfl rfl g_aumbry_aumbryref07_nodeText rfl rfl rfl rfl ((ntextR_ok S307.le hl218 hl236).mono ?_)
      rintro e w313 ⟨a308, c309, hc310, rfl, ho311, hB312⟩
      have S314 := S307.own hB312 ho311
      refine ⟨_, rfl, (((Hp.le.refl _)).trans S314.le), ?_⟩
      refine T_nil ?_
      refine TT_step rfl ?_
      have hD1 : (Go.Au.text [110, 111, 100, 101] [((Go.Au.levels (Go.Au.rowP l) (Go.Au.lg l.length)).getD j []).getD (2 * c) [], ((Go.Au.levels (Go.Au.rowP l) (Go.Au.lg l.length)).getD j []).getD (2 * c + 1) []]) = Go.Au.textP ((Go.Au.prs (Go.Au.ups (Go.Au.rowP l) j)).getD c []) := ptext_at hRj (Go.Au.ups_all (Go.Au.rowP_all hv.1) j) (by omega)
      have hD2 : (Go.Au.text [110, 111, 100, 101] [((Go.Au.levels (Go.Au.rowP m) (Go.Au.lg l.length)).getD j []).getD (2 * c) [], ((Go.Au.levels (Go.Au.rowP m) (Go.Au.lg l.length)).getD j []).getD (2 * c + 1) []]) = Go.Au.textP ((Go.Au.prs (Go.Au.ups (Go.Au.rowP m) j)).getD c []) := ptext_at hSj (Go.Au.ups_all (Go.Au.rowP_all hu.1) j) (by omega)
      have hb1 : (Go.Au.text [110, 111, 100, 101] [((Go.Au.levels (Go.Au.rowP l) (Go.Au.lg l.length)).getD j []).getD (2 * c) [], ((Go.Au.levels (Go.Au.rowP l) (Go.Au.lg l.length)).getD j []).getD (2 * c + 1) []]).length ≤ 100000 := by rw [hD1]; exact Nat.le_trans (Nat.le_of_lt (textP_bd (Go.Au.prs_len (Go.Au.ups_all (Go.Au.rowP_all hv.1) j) (by omega)))) (by decide)
      have hb3 : (Go.Au.text [110, 111, 100, 101] [((Go.Au.levels (Go.Au.rowP m) (Go.Au.lg l.length)).getD j []).getD (2 * c) [], ((Go.Au.levels (Go.Au.rowP m) (Go.Au.lg l.length)).getD j []).getD (2 * c + 1) []]).length ≤ 100000 := by rw [hD2]; exact Nat.le_trans (Nat.le_of_lt (textP_bd (Go.Au.prs_len (Go.Au.ups_all (Go.Au.rowP_all hu.1) j) (by omega)))) (by decide)
      obtain ⟨G316, hl317, S315, r318⟩ := S314.stillRow 1 rfl
      obtain ⟨G320, hl321, S319, r322⟩ := S315.stillRow 0 rfl
      refine T_buildS (cells := #[.slice a301 ((Go.Au.text [110, 111, 100, 101] [(((Go.Au.levels (Go.Au.rowP l) (Go.Au.lg l.length)).getD j []).getD (2 * c) []), (((Go.Au.levels (Go.Au.rowP l) (Go.Au.lg l.length)).getD j []).getD ((2 * c) + 1) [])]).length) c302, .slice a308 ((Go.Au.text [110, 111, 100, 101] [(((Go.Au.levels (Go.Au.rowP m) (Go.Au.lg l.length)).getD j []).getD (2 * c) []), (((Go.Au.levels (Go.Au.rowP m) (Go.Au.lg l.length)).getD j []).getD ((2 * c) + 1) [])]).length) c309]) rfl rfl rfl rfl rfl rfl rfl rfl rfl rfl ?_
      refine T_nil ?_
      refine TT_step rfl ?_
      refine T_storeFS 0 S319 (fun _ h => ((hl317.trans hl321)).trans h) rfl rfl rfl rfl rfl rfl rfl rfl rfl (by first | rfl | simp [hVs, *]) (by first | rfl | simp [hVs, *]) (one_all rfl) fun w323 S324 => ?_
      refine T_nil ?_
      refine TT_done ?_
      refine W_seq ?_
      refine W_region ?_
      refine T_loadFS 0 S324 rfl rfl rfl rfl rfl rfl rfl rfl rfl (by first | rfl | simp [hVs, *]) ?_
      refine T_callS rfl rfl g_aumbry_aumbryref01_Same rfl rfl rfl rfl ((isbrR_ok S324.le (r318.mono hl321) r322 hb1 hb3).mono ?_)
      rintro e w326 ⟨rfl, hB325⟩
      have S327 := S324.call hB325
      refine ⟨_, rfl, trivial, ?_⟩
      refine T_nil ?_
      refine W_cond rfl (fun h328 => ?_) (fun h328 => ?_)
      · refine W_seq ?_
        refine W_region ?_
        refine T_loadFS 0 S327 rfl rfl rfl rfl rfl rfl rfl rfl rfl (by first | rfl | simp [hVs, *]) ?_
        refine T_storeFS 1 S327 (fun _ _ => trivial) rfl rfl rfl rfl rfl rfl rfl rfl rfl (by first | rfl | simp [hVs, *]) (by first | rfl | simp [hVs, *]) (one_all rfl) fun w329 S330 => ?_
        refine T_pev rfl rfl rfl rfl ?_
        refine T_nil ?_
        refine W_ret ?_
        refine ⟨_, ⟨_, _, _, rfl, rfl, run_loadVarA rfl rfl (by first | rfl | simp [hVs, *]) (S330.cells 1 rfl), ⟨_, _, rfl, rfl, rfl⟩⟩, ?_⟩
        have hyes : (Go.Au.unlike l m) = some ((Go.Au.text [110, 111, 100, 101] [((Go.Au.levels (Go.Au.rowP l) (Go.Au.lg l.length)).getD j []).getD (2 * c) [], ((Go.Au.levels (Go.Au.rowP l) (Go.Au.lg l.length)).getD j []).getD (2 * c + 1) []]), (Go.Au.text [110, 111, 100, 101] [((Go.Au.levels (Go.Au.rowP m) (Go.Au.lg l.length)).getD j []).getD (2 * c) [], ((Go.Au.levels (Go.Au.rowP m) (Go.Au.lg l.length)).getD j []).getD (2 * c + 1) []])) := (Go.Au.unlike_eq hlm hroot (hinv.trans (Go.Au.unl_hit (Go.Au.firstNe_hit hfn (isbr_ne hD1 hD2 h328) _ (by omega))))).trans (by rw [hD1, hD2])
        exact br_end hyes (r318.mono hl321) r322 S330.fin S330.below
      refine W_skip ?_
      refine W_region ?_
      refine T_pev rfl rfl rfl rfl ?_
      refine T_ari rfl rfl rfl rfl (by omega) ?_
      refine T_pev rfl rfl rfl rfl ?_
      refine T_nil ?_
      have HFN := Go.Au.firstNe_next hfn (isbr_no hD1 hD2 ((Go.Au.level_text (Go.Au.rowP_all hv.1) (Go.Au.rowP_all hu.1) (Go.Au.rowP_len l) (Go.Au.rowP_len2 hlm) (show j < (Go.Au.lg l.length) by omega) (by omega)).1) (Go.Au.level_break (Go.Au.rowP_all hv.1) (Go.Au.rowP_all hu.1) (Go.Au.rowP_len l) (Go.Au.rowP_len2 hlm) (show j < (Go.Au.lg l.length) by omega) hE (by omega)) h328)
      have S331 := S327.drop 0
      exact ⟨(Go.Au.ups (Go.Au.rowP l) j).length - (c + 1), [(4, .pointer (some ⟨b1, 0, none⟩)), (6, .slice a52 (Go.Au.lg l.length) c53), (7, .slice a57 (Go.Au.lg l.length) c58), (10, .int .i64 ((((j + 1) : Nat) : Int) - 1)), (11, .int .i64 ((2 * (c + 1) : Nat) : Int))], by omega, ⟨rfl, rfl, rfl, (congrArg (fun z => some (Value.int .i64 z)) (by omega)), (congrArg (fun z => some (Value.int .i64 z)) (by omega)), trivial⟩, c + 1, G320, rfl, (by omega), (by exact HFN), rfl, (hl145.trans (hl317.trans hl321)), S331⟩
    refine W_exit ?_
    refine W_region ?_
    refine T_pev rfl rfl rfl rfl ?_
    refine T_ari rfl rfl rfl rfl (by omega) ?_
    refine T_pev rfl rfl rfl rfl ?_
    refine T_nil ?_
    have hc : c = (Go.Au.ups (Go.Au.rowP l) j).length / 2 := by omega
    rw [hc] at hfn
    have HEQ := hinv.trans (Go.Au.unl_down hfn)
    have HE := Go.Au.level_eq (Go.Au.rowP_all hv.1) (Go.Au.rowP_all hu.1) (Go.Au.rowP_len l) (Go.Au.rowP_len2 hlm) (show j < (Go.Au.lg l.length) by omega) hfn
    exact ⟨1 + j, [(4, .pointer (some ⟨b1, 0, none⟩)), (6, .slice a52 (Go.Au.lg l.length) c53), (7, .slice a57 (Go.Au.lg l.length) c58), (10, .int .i64 (((j : Nat) : Int) - 1))], by omega, ⟨rfl, rfl, rfl, (congrArg (fun z => some (Value.int .i64 z)) (by omega)), trivial⟩, j, G144, rfl, (by omega), (by exact HEQ), (by exact HE), rfl, (hl137.trans hl145), S147⟩
  refine W_exit ?_
  refine W_seq ?_
  refine W_region ?_
  refine T_buildS (cells := #[.slice none 0 0, .slice none 0 0]) rfl rfl rfl rfl rfl rfl rfl rfl rfl rfl ?_
  refine T_storeFS 0 S139 (fun _ _ => trivial) rfl rfl rfl rfl rfl rfl rfl rfl rfl (by first | rfl | simp [hVs, *]) (by first | rfl | simp [hVs, *]) (one_all rfl) fun w332 S333 => ?_
  refine T_pev rfl rfl rfl rfl ?_
  refine T_nil ?_
  refine W_ret ?_
  refine ⟨_, ⟨_, _, _, rfl, rfl, run_loadVarA rfl rfl (by first | rfl | simp [hVs, *]) (S333.cells 0 rfl), ⟨_, _, rfl, rfl, rfl⟩⟩, ?_⟩
  obtain rfl : k = 0 := by omega
  have hno : (Go.Au.unlike l m) = none := Go.Au.unlike_eq hlm hroot hinv
  rw [hno]
  exact ⟨none, 0, none, 0, rfl, nilB _, nilB _, S333.below⟩

end Go.Proofs.YtadiakpbodlecaaDoor
