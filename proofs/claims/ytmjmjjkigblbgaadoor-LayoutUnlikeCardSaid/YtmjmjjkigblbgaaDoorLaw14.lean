/- The statements of chapter 14, walked: layouts and versions. -/
import Derived.Test.YtmjmjjkigblbgaaDoorLayC
set_option linter.unusedVariables false
set_option linter.unusedSimpArgs false
set_option maxRecDepth 8192
namespace Go.Proofs.YtmjmjjkigblbgaaDoor
open Go Go.F Go.RowKit
open Go.Au

theorem ueb_nil : ¬ UebOk [] := fun h => absurd (h.1.1 0 (by decide)).1 (by decide)
theorem ueb_tag : (tagged [117, 101, 98] [[]]).take 4 = [65, 92, 97, 191] := by kernel_rfl
theorem ueb_zero : ¬ tagged [117, 101, 98] [[]] = List.replicate 32 0 := by
 intro h
 have := ueb_tag
 rw [h] at this
 exact absurd this (by decide)
theorem wakes_ok {H : Hp} {w : World} (hH : H.le (hw w)) (hT : Tabs H) :
  Calls Tryd.prog 17 #[] w fun e w' => e = .returned (.bool true) ∧ Below w.heap.size w w' := by
 refine enter0 _ Tryd.func17 rfl Tryd.ntmps17 Tryd.results17 ?_
 have S0 := St.start w hH
 refine Wr (Pv (Nr ?_))
 refine T_callS rfl rfl g_aumbry_layout_Unpack rfl rfl rfl rfl ((unpackU_ok S0.le hT (nilB _) (by first | omega | decide)).mono ?_)
 rintro e w2 ⟨rfl, hB1⟩
 have S3 := S0.call hB1
 refine ⟨_, rfl, trivial, ?_⟩
 iterate 3 refine Pv ?_
 refine Ae S3 fun b4 w5 S6 => ?_
 refine T_storeFS 0 S6 (fun _ _ => trivial) rfl rfl rfl rfl rfl rfl rfl rfl rfl (qV_sz (q_len (uH4 _) (uH5 _) rfl)) (qV_sz (q_len (uH4 _) (uH5 _) rfl)) (qV_one) fun w7 S8 => (Pv (Nr ?_))
 iterate 3 refine Pv ?_
 refine T_bool 9 true rfl (ndec_t ueb_nil) (Ys ?_)
 refine T_callS rfl rfl g_aumbry_layout_Print rfl rfl rfl rfl ((print_ok S8.le hT (nilB _) (by first | omega | decide)).mono ?_)
 rintro e w10 ⟨rfl, hB9⟩
 have S11 := S8.call hB9
 refine ⟨_, rfl, trivial, ?_⟩
 refine Ys ?_
 refine T_buildA (cells := (hV (List.replicate 32 0)).cells) rfl rfl rfl rfl rfl rfl rfl rfl rfl rfl (Ys ?_)
 refine T_neB (xs := tagged [117, 101, 98] [([] : List UInt8)]) (ys := (List.replicate 32 0)) rfl rfl rfl rfl rfl rfl rfl rfl rfl rfl rfl (tagged_len _ _) List.length_replicate (T_re (v' := .bool true) (congrArg Value.bool (ndec_t ueb_zero)) ?_)
 iterate 2 refine Pv ?_
 refine T_nil (W_ret ?_)
 refine ⟨_, ⟨_, _, rfl, rfl, rfl⟩, ?_⟩
 exact ⟨rfl, S11.below⟩


end Go.Proofs.YtmjmjjkigblbgaaDoor
