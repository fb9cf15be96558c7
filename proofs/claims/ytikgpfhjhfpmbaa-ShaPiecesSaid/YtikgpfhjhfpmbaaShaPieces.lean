/- ShaPieces: the walk. -/
import Derived.Test.YtikgpfhjhfpmbaaPiecesA
import Derived.Test.YtikgpfhjhfpmbaaRefB
import Derived.Test.YtikgpfhjhfpmbaaShaW
import Derived.Test.YtikgpfhjhfpmbaaFCut
set_option linter.unusedVariables false
set_option linter.unusedSimpArgs false
set_option maxRecDepth 8192
namespace Go.Proofs.Ytikgpfhjhfpmbaa
open Go Go.F Go.RowKit

theorem g_aumbry_sha_New : goFn Try.prog 9 = true := by kernel_rfl
theorem g_aumbry_sha_Sha_Sum : goFn Try.prog 12 = true := by kernel_rfl
theorem g_aumbry_sha_Sha_Write : goFn Try.prog 11 = true := by kernel_rfl
theorem g_aumbry_aumbryref01_Sum : goFn Try.prog 16 = true := by kernel_rfl
theorem g_aumbry_sha_Sum : goFn Try.prog 13 = true := by kernel_rfl
theorem g_aumbry_aumbrykeep_Cut_byte : goFn Try.prog 8 = true := by kernel_rfl
theorem g_aumbry_aumbrykeep_Copy_byte : goFn Try.prog 18 = true := by kernel_rfl
theorem g_aumbry_aumbrykeep_Spoil : goFn Try.prog 19 = true := by kernel_rfl
theorem g_aumbry_aumbrylaw02_wakes : goFn Try.prog 14 = true := by kernel_rfl
theorem copy0 (w : World) {a : Option Addr} {n c : Nat} (h0 : n = 0) :
    Calls Try.prog 18 #[.slice a n c] w fun e w' => e = .returned (.slice none 0 0) ∧ Below w.heap.size w w' := by
  subst h0
  refine enter1 _ Try.func18 rfl Try.ntmps18 Try.results18 rfl ?_
  refine W_seq ?_
  refine W_region ?_
  refine T_pev rfl rfl rfl rfl ?_
  refine T_nil ?_
  refine W_seq ?_
  refine W_region ?_
  refine T_pev rfl rfl rfl rfl ?_
  refine T_appendE (fun _ => trivial) rfl rfl rfl rfl rfl rfl rfl rfl rfl ?_
  refine T_pev rfl rfl rfl rfl ?_
  refine T_nil ?_
  refine W_ret ?_
  exact ⟨_, ⟨_, _, rfl, rfl, rfl⟩, rfl, below_refl _⟩
theorem spoil0 {H : Hp} {w : World} (hH : H.le (hw w))  :
    Calls Try.prog 19 #[.slice none 0 0] w fun e w' => (∃ v, e = .returned v) ∧ Below w.heap.size w w' := by
  refine enter1 _ Try.func19 rfl Try.ntmps19 Try.results19 rfl ?_
  have S0 := St.start w hH
  refine W_seq ?_
  refine W_region ?_
  refine T_pev rfl rfl rfl rfl ?_
  refine T_pev rfl rfl rfl rfl ?_
  refine T_pev rfl rfl rfl rfl ?_
  refine T_sliceR 0 0 (nilB H) rfl rfl rfl rfl rfl rfl rfl rfl rfl rfl (bound_of (by omega)) rfl (by omega) (by omega) fun a1 c2 hc3 r4 => ?_
  have r5 := Rd.cutB r4
  refine T_pev rfl rfl rfl rfl ?_
  refine T_nil ?_
  refine W_seq ?_
  refine W_region ?_
  refine T_pev rfl rfl rfl rfl ?_
  refine T_pev rfl rfl rfl rfl ?_
  refine T_pev rfl rfl rfl rfl ?_
  refine T_nil ?_
  refine W_block ?_
  refine W_loop (fun M ρ w' => ∃  (G6 : Hp), M = 0 ∧ ρ = [(2, .slice a1 (0 - 0) c2), (9, .int .i64 (((0 - 0) : Nat) : Int)), (10, .int .i64 0)] ∧ H.le G6 ∧ St w H G6 [] w')
    (0) [(2, .slice a1 (0 - 0) c2), (9, .int .i64 (((0 - 0) : Nat) : Int)), (10, .int .i64 0)] ⟨rfl, (congrArg (fun z => some (Value.int .i64 z)) (by omega)), (congrArg (fun z => some (Value.int .i64 z)) (by omega)), trivial⟩ ⟨H, rfl, rfl, Hp.le.refl _, S0⟩ ?_
  rintro M ρ w8 ⟨G6, rfl, rfl, hl7, S9⟩
  refine W_seq ?_
  refine W_region ?_
  refine T_pev rfl rfl rfl rfl ?_
  refine T_nil ?_
  refine W_seq ?_
  refine W_bool 11 false rfl (decide_eq_false (by omega)) ?_
  refine W_cond_false rfl ?_
  refine W_exit ?_
  refine ⟨_, rfl, ?_⟩
  exact ⟨⟨_, rfl⟩, S9.below⟩


theorem shaPieces_ok {H : Hp} {w : World} (hH : H.le (hw w)) {l : List (List UInt8)} {aa0 : Option Addr} {nn0 cc0 : Nat} (hv : RdL H (.slice aa0 nn0 cc0) l) :
    Calls Try.prog 6 #[.slice aa0 nn0 cc0] w fun e w' => e = .returned (.bool true) ∧ Below w.heap.size w w' := by
  obtain rfl : nn0 = l.length := hv.len
  refine enter1 _ Try.func6 rfl Try.ntmps6 Try.results6 rfl ?_
  have S0 := St.start w hH
  refine W_seq ?_
  refine W_region ?_
  refine T_pev rfl rfl rfl rfl ?_
  refine T_nil ?_
  refine W_seq ?_
  refine W_region ?_
  refine T_callS rfl rfl g_aumbry_sha_New rfl rfl rfl rfl ((newS S0).mono ?_)
  rintro e w5 ⟨sb1, lv2, rfl, S4, lf3⟩
  refine ⟨_, rfl, trivial, ?_⟩
  refine T_pev rfl rfl rfl rfl ?_
  refine T_nil ?_
  refine W_seq ?_
  refine W_seq ?_
  refine W_region ?_
  refine T_pev rfl rfl rfl rfl ?_
  refine T_pnil rfl rfl rfl rfl rfl rfl rfl ?_
  refine T_pev rfl rfl rfl rfl ?_
  refine T_yes rfl rfl rfl ?_ rfl
  refine T_pev rfl rfl rfl rfl ?_
  refine T_yes rfl rfl rfl ?_ rfl
  refine T_callS rfl rfl g_aumbry_sha_Sha_Sum rfl rfl rfl rfl ((sumS S4 0 (m := []) rfl lf3 (by first | omega | decide)).mono ?_)
  rintro e w7 ⟨rfl, hB6⟩
  have S8 := S4.call hB6
  refine ⟨_, rfl, trivial, ?_⟩
  refine T_yes rfl rfl rfl ?_ rfl
  refine T_callS rfl rfl g_aumbry_aumbryref01_Sum rfl rfl rfl rfl ((refSum_ok ([]) _ _ (Rd.nil _ _) (by first | omega | decide)).mono ?_)
  rintro e w10 ⟨rfl, hB9⟩
  have S11 := S8.call hB9
  refine ⟨_, rfl, trivial, ?_⟩
  refine T_yes rfl rfl rfl ?_ rfl
  refine T_neB (xs := (Go.Sha.sha ([]))) (ys := (Go.Sha.sha ([]))) rfl rfl rfl rfl rfl rfl rfl rfl rfl rfl rfl (Go.Sha.sha_len _) (Go.Sha.sha_len _) ?_
  refine T_pev rfl rfl rfl rfl ?_
  refine T_nil ?_
  refine W_bool 16 false rfl (ndec_f rfl) ?_
  refine W_cond_false rfl ?_
  refine W_skip ?_
  refine W_seq ?_
  refine W_region ?_
  refine T_pev rfl rfl rfl rfl ?_
  refine T_nil ?_
  refine W_seq ?_
  refine W_seq ?_
  refine W_region ?_
  refine T_pev rfl rfl rfl rfl ?_
  refine T_nil ?_
  refine W_block ?_
  have S12 := S11.nilRow 5 1
  refine W_loop (fun M ρ w' => ∃ (k : Nat) (lv : Value) (a15 : Option Addr) (c16 : Nat) (G13 : Hp), M = 10 - k ∧ k ≤ 10 ∧ k ≤ l.length ∧ ρ = [(0, .slice aa0 l.length cc0), (3, .pointer (some ⟨sb1, 0, none⟩)), (4, .slice a15 ((joinTo l k).length) c16), (5, .int .i64 (k : Int))] ∧ H.le G13 ∧ St w H G13 [.row 5 1 (.slice a15 ((joinTo l k).length) c16) ((joinTo l k).length) ((joinTo l k).map bV), .blk sb1 (sC (joinTo l k) lv) 51] w' ∧ Lf G13 sb1 lv (joinTo l k) ∧ (joinTo l k).length ≤ c16)
    (10 - 0) [(0, .slice aa0 l.length cc0), (3, .pointer (some ⟨sb1, 0, none⟩)), (4, .slice none 0 0), (5, .int .i64 ((0 : Nat) : Int))] ⟨rfl, rfl, rfl, (congrArg (fun z => some (Value.int .i64 z)) (by omega)), trivial⟩ ⟨0, lv2, none, 0, H, rfl, (by omega), (by omega), rfl, Hp.le.refl _, S12, lf3, (Nat.le_refl _)⟩ ?_
  rintro M ρ w18 ⟨k, lv, a15, c16, G13, rfl, hp20, hp21, rfl, hl14, S19, HLK, hc17⟩
  have hja : (joinTo l (k + 1)).length = (joinTo l k).length + ((l.getD k []).take 150).length := List.length_append
  have hjl := joinTo_len l k
  have hjs := joinTo_len l (k + 1)
  have hpl : ((l.getD k []).take 150).length ≤ 150 := List.length_take_le _ _
  refine W_seq ?_
  refine W_seq ?_
  refine W_region ?_
  refine T_pev rfl rfl rfl rfl ?_
  refine T_pev rfl rfl rfl rfl ?_
  refine T_pev rfl rfl rfl rfl ?_
  refine T_pev rfl rfl rfl rfl ?_
  refine T_pev rfl rfl rfl rfl ?_
  refine T_part (t := 21) rfl (List.cons_ne_nil _ _) (fun h22' => ?_) (fun h22' => ?_)
  · have h22 := of_decide_eq_true h22'
    refine T_yes rfl rfl rfl ?_ rfl
    refine T_pev rfl rfl rfl rfl ?_
    refine T_yes rfl rfl rfl ?_ rfl
    refine T_pev rfl rfl rfl rfl ?_
    refine T_pev rfl rfl rfl rfl ?_
    refine T_nil ?_
    refine W_cond_dec rfl (fun h23 => ?_) (fun h23 => ?_)
    · refine W_skip ?_
      refine W_seq ?_
      refine W_block ?_
      refine W_seq ?_
      refine W_region ?_
      refine T_pev rfl rfl rfl rfl ?_
      refine T_pev rfl rfl rfl rfl ?_
      obtain ⟨hs27, r28, r29⟩ := (hv.mono hl14)
      refine T_idxR k r28 rfl rfl rfl rfl rfl rfl rfl rfl rfl (by omega) (by omega) fun b24 o25 hc26 => ?_
      obtain ⟨a32, c33, hc35, hv31, r34⟩ := r29.at k (by omega)
      have hc36 := hc26 0 (.slice a32 (l.getD k []).length c33) (by simpa using hv31)
      simp only [Nat.add_zero] at hc36
      refine T_loadG S19 hc36 rfl rfl rfl rfl rfl rfl rfl ?_
      refine T_callS rfl rfl g_aumbry_aumbrykeep_Cut_byte rfl rfl rfl rfl ((cut_ok G13 (l.getD k []) _ 150 _ r34).mono ?_)
      rintro e w43 ⟨v37, rfl, r38, hB39⟩
      have S44 := S19.call hB39
      refine ⟨_, rfl, trivial, ?_⟩
      obtain ⟨a40, c41, rfl, hc42⟩ := r38.shape
      refine T_pev rfl rfl rfl rfl ?_
      refine T_nil ?_
      refine W_seq ?_
      refine W_region ?_
      refine T_pev rfl rfl rfl rfl ?_
      refine T_pev rfl rfl rfl rfl ?_
      have hD45 : (joinTo l k ++ ((l.getD k []).take 150)) = joinTo l (k + 1) := rfl
      refine T_appendS 0 ((joinTo l (k + 1)).length) ((joinTo l (k + 1)).map bV) S44 (fun _ _ => trivial) rfl rfl rfl rfl rfl rfl rfl rfl rfl rfl rfl rfl rfl rfl (r38.mono S44.le) (one_bV _) (by first | rfl | (simp; done) | (simp; omega) | omega) (by rw [← hD45]; simp) (by unfold maxLen; omega) (by show _ * 1 ≤ _; omega) fun a46 c47 w48 hc49 S50 => ?_
      refine T_pev rfl rfl rfl rfl ?_
      refine T_nil ?_
      refine W_seq ?_
      by_cases HZ : ((l.getD k []).take 150).length = 0
      · refine W_region ?_
        refine T_pev rfl rfl rfl rfl ?_
        have HZ0 : ((l.getD k []).take 150) = [] := List.eq_nil_of_length_eq_zero HZ
        refine T_callS rfl rfl g_aumbry_aumbrykeep_Copy_byte rfl rfl rfl rfl ((copy0 _ HZ).mono ?_)
        rintro e w52 ⟨rfl, hB51⟩
        have S53 := S50.call hB51
        refine ⟨_, rfl, trivial, ?_⟩
        refine T_pev rfl rfl rfl rfl ?_
        refine T_nil ?_
        refine W_seq ?_
        refine W_seq ?_
        refine W_region ?_
        refine T_pev rfl rfl rfl rfl ?_
        refine T_pev rfl rfl rfl rfl ?_
        have HZW : Rd (hx w52 sb1) (.slice none 0 0) ((l.getD k []).take 150).length 1 (((l.getD k []).take 150).map bV) := by rw [HZ0]; exact Rd.nil _ _
        refine T_callS rfl rfl g_aumbry_sha_Sha_Write rfl rfl rfl rfl ((writeS S53 1 (b := ((l.getD k []).take 150)) rfl HLK HZW (by omega)).mono ?_)
        rintro e w57 ⟨LV, G54, rfl, hl55, S56, LF⟩
        refine ⟨_, rfl, trivial, ?_⟩
        refine T_pev rfl rfl rfl rfl ?_
        refine T_pev rfl rfl rfl rfl ?_
        refine T_pev rfl rfl rfl rfl ?_
        refine T_nil ?_
        refine W_bool 42 false rfl (ndec_f rfl) ?_
        refine W_cond_false rfl ?_
        refine W_skip ?_
        refine W_seq ?_
        refine W_region ?_
        refine T_pev rfl rfl rfl rfl ?_
        refine T_callS rfl rfl g_aumbry_aumbrykeep_Spoil rfl rfl rfl rfl ((spoil0 S56.le).mono ?_)
        rintro e w60 ⟨⟨v59, rfl⟩, hB58⟩
        have S61 := S56.call hB58
        refine ⟨_, rfl, trivial, ?_⟩
        refine T_nil ?_
        refine W_seq ?_
        refine W_region ?_
        refine T_pev rfl rfl rfl rfl ?_
        refine T_rem rfl rfl rfl rfl rfl rfl (by omega) ?_
        refine T_pev rfl rfl rfl rfl ?_
        refine T_pev rfl rfl rfl rfl ?_
        refine T_part (t := 48) rfl (List.cons_ne_nil _ _) (fun h62' => ?_) (fun h62' => ?_)
        · have h62 := of_decide_eq_true h62'
          refine T_yes rfl rfl rfl ?_ rfl
          refine T_pev rfl rfl rfl rfl ?_
          refine T_yes rfl rfl rfl ?_ rfl
          refine T_callS rfl rfl g_aumbry_sha_Sha_Sum rfl rfl rfl rfl ((sumS S61 1 (m := (joinTo l (k + 1))) rfl LF (by first | omega | decide)).mono ?_)
          rintro e w64 ⟨rfl, hB63⟩
          have S65 := S61.call hB63
          refine ⟨_, rfl, trivial, ?_⟩
          refine T_yes rfl rfl rfl ?_ rfl
          refine T_pev rfl rfl rfl rfl ?_
          refine T_yes rfl rfl rfl ?_ rfl
          refine T_callS rfl rfl g_aumbry_aumbryref01_Sum rfl rfl rfl rfl ((refSum_ok (joinTo l (k + 1)) _ _ (S65.rd 0 rfl) (by first | omega | decide)).mono ?_)
          rintro e w67 ⟨rfl, hB66⟩
          have S68 := S65.call hB66
          refine ⟨_, rfl, trivial, ?_⟩
          refine T_yes rfl rfl rfl ?_ rfl
          refine T_neB (xs := (Go.Sha.sha (joinTo l (k + 1)))) (ys := (Go.Sha.sha (joinTo l (k + 1)))) rfl rfl rfl rfl rfl rfl rfl rfl rfl rfl rfl (Go.Sha.sha_len _) (Go.Sha.sha_len _) ?_
          refine T_pev rfl rfl rfl rfl ?_
          refine T_nil ?_
          refine W_bool 54 false rfl (ndec_f rfl) ?_
          refine W_cond_false rfl ?_
          refine W_skip ?_
          refine W_region ?_
          refine T_pev rfl rfl rfl rfl ?_
          refine T_ari rfl rfl rfl rfl (by omega) ?_
          refine T_pev rfl rfl rfl rfl ?_
          refine T_nil ?_
          have LFN := LF
          exact ⟨10 - (k + 1), [(0, .slice aa0 l.length cc0), (3, .pointer (some ⟨sb1, 0, none⟩)), (4, .slice a46 ((joinTo l (k + 1)).length) c47), (5, .int .i64 ((k + 1 : Nat) : Int))], by omega, ⟨rfl, rfl, rfl, (congrArg (fun z => some (Value.int .i64 z)) (by omega)), trivial⟩, k + 1, LV, a46, c47, G54, rfl, (by omega), (by omega), rfl, (hl14.trans hl55), S68, LFN, hc49⟩
        have h62 := of_decide_eq_false h62'
        refine T_no rfl rfl rfl rfl rfl rfl ?_
        refine T_no rfl rfl rfl rfl rfl rfl ?_
        refine T_no rfl rfl rfl rfl rfl rfl ?_
        refine T_no rfl rfl rfl rfl rfl rfl ?_
        refine T_no rfl rfl rfl rfl rfl rfl ?_
        refine T_pev rfl rfl rfl rfl ?_
        refine T_nil ?_
        refine W_cond_false rfl ?_
        refine W_skip ?_
        refine W_region ?_
        refine T_pev rfl rfl rfl rfl ?_
        refine T_ari rfl rfl rfl rfl (by omega) ?_
        refine T_pev rfl rfl rfl rfl ?_
        refine T_nil ?_
        have LFN := LF
        exact ⟨10 - (k + 1), [(0, .slice aa0 l.length cc0), (3, .pointer (some ⟨sb1, 0, none⟩)), (4, .slice a46 ((joinTo l (k + 1)).length) c47), (5, .int .i64 ((k + 1 : Nat) : Int))], by omega, ⟨rfl, rfl, rfl, (congrArg (fun z => some (Value.int .i64 z)) (by omega)), trivial⟩, k + 1, LV, a46, c47, G54, rfl, (by omega), (by omega), rfl, (hl14.trans hl55), S61, LFN, hc49⟩
      · refine W_region ?_
        refine T_pev rfl rfl rfl rfl ?_
        refine T_callS rfl rfl g_aumbry_aumbrykeep_Copy_byte rfl rfl rfl rfl ((copyS S50 (b := ((l.getD k []).take 150)) r38 (by omega) (by omega)).mono ?_)
        rintro e w74 ⟨g69, C70, rfl, hC71, hm72, S73⟩
        refine ⟨_, rfl, trivial, ?_⟩
        refine T_pev rfl rfl rfl rfl ?_
        refine T_nil ?_
        refine W_seq ?_
        refine W_seq ?_
        refine W_region ?_
        refine T_pev rfl rfl rfl rfl ?_
        refine T_pev rfl rfl rfl rfl ?_
        refine T_callS rfl rfl g_aumbry_sha_Sha_Write rfl rfl rfl rfl ((writeS S73 2 (b := ((l.getD k []).take 150)) rfl HLK (rdx_of S73 2 0 rfl rfl (by decide) hC71) (by omega)).mono ?_)
        rintro e w78 ⟨LV, G75, rfl, hl76, S77, LF⟩
        refine ⟨_, rfl, trivial, ?_⟩
        refine T_pev rfl rfl rfl rfl ?_
        refine T_pev rfl rfl rfl rfl ?_
        refine T_pev rfl rfl rfl rfl ?_
        refine T_nil ?_
        refine W_bool 42 false rfl (ndec_f rfl) ?_
        refine W_cond_false rfl ?_
        refine W_skip ?_
        refine W_seq ?_
        refine W_region ?_
        refine T_pev rfl rfl rfl rfl ?_
        have hL79 : (((l.getD k []).take 150) ++ List.replicate (C70 - ((l.getD k []).take 150).length) (0 : UInt8)).length = C70 := by rw [List.length_append, List.length_replicate]; omega
        unfold maxLen at hm72
        have hsp80 := spoilS S77 0 (l := ((l.getD k []).take 150).length) (L := (((l.getD k []).take 150) ++ List.replicate (C70 - ((l.getD k []).take 150).length) (0 : UInt8))) rfl (by omega) (by omega)
        rw [hL79] at hsp80
        refine T_callS rfl rfl g_aumbry_aumbrykeep_Spoil rfl rfl rfl rfl ((hsp80).mono ?_)
        rintro e w83 ⟨⟨v81, rfl⟩, S82⟩
        refine ⟨_, rfl, trivial, ?_⟩
        refine T_nil ?_
        refine W_seq ?_
        refine W_region ?_
        refine T_pev rfl rfl rfl rfl ?_
        refine T_rem rfl rfl rfl rfl rfl rfl (by omega) ?_
        refine T_pev rfl rfl rfl rfl ?_
        refine T_pev rfl rfl rfl rfl ?_
        refine T_part (t := 48) rfl (List.cons_ne_nil _ _) (fun h84' => ?_) (fun h84' => ?_)
        · have h84 := of_decide_eq_true h84'
          refine T_yes rfl rfl rfl ?_ rfl
          refine T_pev rfl rfl rfl rfl ?_
          refine T_yes rfl rfl rfl ?_ rfl
          refine T_callS rfl rfl g_aumbry_sha_Sha_Sum rfl rfl rfl rfl ((sumS S82 1 (m := (joinTo l (k + 1))) rfl LF (by first | omega | decide)).mono ?_)
          rintro e w86 ⟨rfl, hB85⟩
          have S87 := S82.call hB85
          refine ⟨_, rfl, trivial, ?_⟩
          refine T_yes rfl rfl rfl ?_ rfl
          refine T_pev rfl rfl rfl rfl ?_
          refine T_yes rfl rfl rfl ?_ rfl
          refine T_callS rfl rfl g_aumbry_aumbryref01_Sum rfl rfl rfl rfl ((refSum_ok (joinTo l (k + 1)) _ _ (S87.rd 0 rfl) (by first | omega | decide)).mono ?_)
          rintro e w89 ⟨rfl, hB88⟩
          have S90 := S87.call hB88
          refine ⟨_, rfl, trivial, ?_⟩
          refine T_yes rfl rfl rfl ?_ rfl
          refine T_neB (xs := (Go.Sha.sha (joinTo l (k + 1)))) (ys := (Go.Sha.sha (joinTo l (k + 1)))) rfl rfl rfl rfl rfl rfl rfl rfl rfl rfl rfl (Go.Sha.sha_len _) (Go.Sha.sha_len _) ?_
          refine T_pev rfl rfl rfl rfl ?_
          refine T_nil ?_
          refine W_bool 54 false rfl (ndec_f rfl) ?_
          refine W_cond_false rfl ?_
          refine W_skip ?_
          refine W_region ?_
          refine T_pev rfl rfl rfl rfl ?_
          refine T_ari rfl rfl rfl rfl (by omega) ?_
          refine T_pev rfl rfl rfl rfl ?_
          refine T_nil ?_
          have LFN := LF
          exact ⟨10 - (k + 1), [(0, .slice aa0 l.length cc0), (3, .pointer (some ⟨sb1, 0, none⟩)), (4, .slice a46 ((joinTo l (k + 1)).length) c47), (5, .int .i64 ((k + 1 : Nat) : Int))], by omega, ⟨rfl, rfl, rfl, (congrArg (fun z => some (Value.int .i64 z)) (by omega)), trivial⟩, k + 1, LV, a46, c47, G75, rfl, (by omega), (by omega), rfl, (hl14.trans hl76), S90, LFN, hc49⟩
        have h84 := of_decide_eq_false h84'
        refine T_no rfl rfl rfl rfl rfl rfl ?_
        refine T_no rfl rfl rfl rfl rfl rfl ?_
        refine T_no rfl rfl rfl rfl rfl rfl ?_
        refine T_no rfl rfl rfl rfl rfl rfl ?_
        refine T_no rfl rfl rfl rfl rfl rfl ?_
        refine T_pev rfl rfl rfl rfl ?_
        refine T_nil ?_
        refine W_cond_false rfl ?_
        refine W_skip ?_
        refine W_region ?_
        refine T_pev rfl rfl rfl rfl ?_
        refine T_ari rfl rfl rfl rfl (by omega) ?_
        refine T_pev rfl rfl rfl rfl ?_
        refine T_nil ?_
        have LFN := LF
        exact ⟨10 - (k + 1), [(0, .slice aa0 l.length cc0), (3, .pointer (some ⟨sb1, 0, none⟩)), (4, .slice a46 ((joinTo l (k + 1)).length) c47), (5, .int .i64 ((k + 1 : Nat) : Int))], by omega, ⟨rfl, rfl, rfl, (congrArg (fun z => some (Value.int .i64 z)) (by omega)), trivial⟩, k + 1, LV, a46, c47, G75, rfl, (by omega), (by omega), rfl, (hl14.trans hl76), S82, LFN, hc49⟩
    refine W_exit ?_
    refine W_seq ?_
    refine W_region ?_
    refine T_pev rfl rfl rfl rfl ?_
    refine T_callS rfl rfl g_aumbry_sha_Sha_Sum rfl rfl rfl rfl ((sumS S19 1 (m := (joinTo l k)) rfl HLK (by first | omega | decide)).mono ?_)
    rintro e w92 ⟨rfl, hB91⟩
    have S93 := S19.call hB91
    refine ⟨_, rfl, trivial, ?_⟩
    refine T_pev rfl rfl rfl rfl ?_
    refine T_callS rfl rfl g_aumbry_sha_Sum rfl rfl rfl rfl ((sum_ok (joinTo l k) _ _ (S93.rd 0 rfl) (by first | omega | decide)).mono ?_)
    rintro e w95 ⟨rfl, hB94⟩
    have S96 := S93.call hB94
    refine ⟨_, rfl, trivial, ?_⟩
    refine T_eqB (xs := (Go.Sha.sha (joinTo l k))) (ys := (Go.Sha.sha (joinTo l k))) rfl rfl rfl rfl rfl rfl rfl rfl rfl rfl rfl (Go.Sha.sha_len _) (Go.Sha.sha_len _) ?_
    refine T_pev rfl rfl rfl rfl ?_
    refine T_bool 60 true rfl (decide_eq_true rfl) ?_
    refine T_yes rfl rfl rfl ?_ rfl
    refine T_pev rfl rfl rfl rfl ?_
    refine T_yes rfl rfl rfl ?_ rfl
    refine T_callS rfl rfl g_aumbry_sha_Sha_Sum rfl rfl rfl rfl ((sumS S96 1 (m := (joinTo l k)) rfl HLK (by first | omega | decide)).mono ?_)
    rintro e w98 ⟨rfl, hB97⟩
    have S99 := S96.call hB97
    refine ⟨_, rfl, trivial, ?_⟩
    refine T_yes rfl rfl rfl ?_ rfl
    refine T_pev rfl rfl rfl rfl ?_
    refine T_yes rfl rfl rfl ?_ rfl
    refine T_callS rfl rfl g_aumbry_aumbryref01_Sum rfl rfl rfl rfl ((refSum_ok (joinTo l k) _ _ (S99.rd 0 rfl) (by first | omega | decide)).mono ?_)
    rintro e w101 ⟨rfl, hB100⟩
    have S102 := S99.call hB100
    refine ⟨_, rfl, trivial, ?_⟩
    refine T_yes rfl rfl rfl ?_ rfl
    refine T_eqB (xs := (Go.Sha.sha (joinTo l k))) (ys := (Go.Sha.sha (joinTo l k))) rfl rfl rfl rfl rfl rfl rfl rfl rfl rfl rfl (Go.Sha.sha_len _) (Go.Sha.sha_len _) ?_
    refine T_pev rfl rfl rfl rfl ?_
    refine T_pev rfl rfl rfl rfl ?_
    refine T_bool 67 true rfl (decide_eq_true rfl) ?_
    refine T_yes rfl rfl rfl ?_ rfl
    refine T_callS rfl rfl g_aumbry_aumbrylaw02_wakes rfl rfl rfl rfl ((wakes_ok _).mono ?_)
    rintro e w104 ⟨rfl, hB103⟩
    have S105 := S102.call hB103
    refine ⟨_, rfl, trivial, ?_⟩
    refine T_pev rfl rfl rfl rfl ?_
    refine T_pev rfl rfl rfl rfl ?_
    refine T_nil ?_
    refine W_ret ?_
    refine ⟨_, ⟨_, _, rfl, rfl, rfl⟩, ?_⟩
    exact ⟨rfl, S105.below⟩
  have h22 := of_decide_eq_false h22'
  refine T_no rfl rfl rfl rfl rfl rfl ?_
  refine T_no rfl rfl rfl rfl rfl rfl ?_
  refine T_pev rfl rfl rfl rfl ?_
  refine T_nil ?_
  refine W_cond_false rfl ?_
  refine W_exit ?_
  refine W_seq ?_
  refine W_region ?_
  refine T_pev rfl rfl rfl rfl ?_
  refine T_callS rfl rfl g_aumbry_sha_Sha_Sum rfl rfl rfl rfl ((sumS S19 1 (m := (joinTo l k)) rfl HLK (by first | omega | decide)).mono ?_)
  rintro e w107 ⟨rfl, hB106⟩
  have S108 := S19.call hB106
  refine ⟨_, rfl, trivial, ?_⟩
  refine T_pev rfl rfl rfl rfl ?_
  refine T_callS rfl rfl g_aumbry_sha_Sum rfl rfl rfl rfl ((sum_ok (joinTo l k) _ _ (S108.rd 0 rfl) (by first | omega | decide)).mono ?_)
  rintro e w110 ⟨rfl, hB109⟩
  have S111 := S108.call hB109
  refine ⟨_, rfl, trivial, ?_⟩
  refine T_eqB (xs := (Go.Sha.sha (joinTo l k))) (ys := (Go.Sha.sha (joinTo l k))) rfl rfl rfl rfl rfl rfl rfl rfl rfl rfl rfl (Go.Sha.sha_len _) (Go.Sha.sha_len _) ?_
  refine T_pev rfl rfl rfl rfl ?_
  refine T_bool 60 true rfl (decide_eq_true rfl) ?_
  refine T_yes rfl rfl rfl ?_ rfl
  refine T_pev rfl rfl rfl rfl ?_
  refine T_yes rfl rfl rfl ?_ rfl
  refine T_callS rfl rfl g_aumbry_sha_Sha_Sum rfl rfl rfl rfl ((sumS S111 1 (m := (joinTo l k)) rfl HLK (by first | omega | decide)).mono ?_)
  rintro e w113 ⟨rfl, hB112⟩
  have S114 := S111.call hB112
  refine ⟨_, rfl, trivial, ?_⟩
  refine T_yes rfl rfl rfl ?_ rfl
  refine T_pev rfl rfl rfl rfl ?_
  refine T_yes rfl rfl rfl ?_ rfl
  refine T_callS rfl rfl g_aumbry_aumbryref01_Sum rfl rfl rfl rfl ((refSum_ok (joinTo l k) _ _ (S114.rd 0 rfl) (by first | omega | decide)).mono ?_)
  rintro e w116 ⟨rfl, hB115⟩
  have S117 := S114.call hB115
  refine ⟨_, rfl, trivial, ?_⟩
  refine T_yes rfl rfl rfl ?_ rfl
  refine T_eqB (xs := (Go.Sha.sha (joinTo l k))) (ys := (Go.Sha.sha (joinTo l k))) rfl rfl rfl rfl rfl rfl rfl rfl rfl rfl rfl (Go.Sha.sha_len _) (Go.Sha.sha_len _) ?_
  refine T_pev rfl rfl rfl rfl ?_
  refine T_pev rfl rfl rfl rfl ?_
  refine T_bool 67 true rfl (decide_eq_true rfl) ?_
  refine T_yes rfl rfl rfl ?_ rfl
  refine T_callS rfl rfl g_aumbry_aumbrylaw02_wakes rfl rfl rfl rfl ((wakes_ok _).mono ?_)
  rintro e w119 ⟨rfl, hB118⟩
  have S120 := S117.call hB118
  refine ⟨_, rfl, trivial, ?_⟩
  refine T_pev rfl rfl rfl rfl ?_
  refine T_pev rfl rfl rfl rfl ?_
  refine T_nil ?_
  refine W_ret ?_
  refine ⟨_, ⟨_, _, rfl, rfl, rfl⟩, ?_⟩
  exact ⟨rfl, S120.below⟩

end Go.Proofs.Ytikgpfhjhfpmbaa
