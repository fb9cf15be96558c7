/- The tables of Go's library that the program reads; the functions' look-ups. -/
import Derived.Test.YtmjmjjkigblbgaaGreatDoorRows
import Derived.Test.YtmjmjjkigblbgaaGreatDoorFRest
import Derived.Test.YtmjmjjkigblbgaaGreatDoorAuAll
set_option linter.unusedVariables false
set_option linter.unusedSimpArgs false
set_option maxRecDepth 8192
namespace Go.Proofs.YtmjmjjkigblbgaaGreatDoor
open Go Go.F Go.RowKit

def Tabs (H : Hp) : Prop := ∀ i, i < 20 → hcell H 0 i = some (.int .u64 ((10 ^ i : Nat) : Int))
theorem tab_at {H : Hp} (h : Tabs H) (q : Nat) (hq : q < 20) {off : Nat} (ho : off = q) : hcell H 0 off = some (.int .u64 ((10 ^ q : Nat) : Int)) := by subst ho; exact h off hq
theorem Tabs.mono {H G : Hp} (h : Tabs H) (hl : H.le G) : Tabs G := fun i hi => hcell_mono hl (h i hi)
theorem g_aumbry_aumbrykeep_Cut_byte : goFn Tryz.prog 7 = true := by kernel_rfl
theorem g_aumbry_tree_Leaf : goFn Tryz.prog 54 = true := by kernel_rfl
theorem g_aumbry_aumbryref07_Leaf : goFn Tryz.prog 96 = true := by kernel_rfl
theorem g_aumbry_tree_Root : goFn Tryz.prog 71 = true := by kernel_rfl
theorem g_aumbry_aumbryref07_Root : goFn Tryz.prog 45 = true := by kernel_rfl
theorem g_aumbry_tree_Node : goFn Tryz.prog 149 = true := by kernel_rfl
theorem g_aumbry_aumbryref07_Node : goFn Tryz.prog 114 = true := by kernel_rfl
theorem g_aumbry_tree_Pad : goFn Tryz.prog 150 = true := by kernel_rfl
theorem g_aumbry_aumbryref07_Pad : goFn Tryz.prog 113 = true := by kernel_rfl
theorem g_aumbry_aumbrykeep_Within : goFn Tryz.prog 9 = true := by kernel_rfl
theorem g_aumbry_aumbryref07_Proof : goFn Tryz.prog 48 = true := by kernel_rfl
theorem g_aumbry_tree_Climb : goFn Tryz.prog 70 = true := by kernel_rfl
theorem g_aumbry_aumbryref07_Climb : goFn Tryz.prog 77 = true := by kernel_rfl
theorem g_aumbry_tree_Check : goFn Tryz.prog 28 = true := by kernel_rfl
theorem g_aumbry_sha_Tagged : goFn Tryz.prog 67 = true := by kernel_rfl
theorem g_aumbry_aumbryref01_Tagged : goFn Tryz.prog 73 = true := by kernel_rfl
theorem g_aumbry_tree_rows : goFn Tryz.prog 111 = true := by kernel_rfl
theorem g_aumbry_aumbryref07_row : goFn Tryz.prog 82 = true := by kernel_rfl
theorem g_aumbry_aumbryref07_up : goFn Tryz.prog 83 = true := by kernel_rfl
theorem g_aumbry_sha_Sum : goFn Tryz.prog 92 = true := by kernel_rfl
theorem g_aumbry_tree_text : goFn Tryz.prog 167 = true := by kernel_rfl
theorem g_aumbry_aumbryref01_Sum : goFn Tryz.prog 49 = true := by kernel_rfl
theorem g_aumbry_aumbryref07_nodeText : goFn Tryz.prog 151 = true := by kernel_rfl
theorem g_aumbry_tree_way : goFn Tryz.prog 110 = true := by kernel_rfl
theorem g_bytes_Equal : goFn Tryz.prog 64 = true := by kernel_rfl
theorem g_aumbry_sha_Text : goFn Tryz.prog 106 = true := by kernel_rfl
theorem g_aumbry_aumbryref01_Text : goFn Tryz.prog 89 = true := by kernel_rfl
theorem g_aumbry_aumbryref01_Put : goFn Tryz.prog 86 = true := by kernel_rfl
theorem g_aumbry_tree_high : goFn Tryz.prog 148 = true := by kernel_rfl
theorem g_aumbry_code_Net : goFn Tryz.prog 129 = true := by kernel_rfl
theorem g_aumbry_code_Nets : goFn Tryz.prog 94 = true := by kernel_rfl
theorem g_aumbry_aumbryref01_Net : goFn Tryz.prog 121 = true := by kernel_rfl
theorem g_aumbry_aumbryref01_Nets : goFn Tryz.prog 85 = true := by kernel_rfl
theorem g_aumbry_code_Put : goFn Tryz.prog 95 = true := by kernel_rfl
theorem g_strconv_Itoa : goFn Tryz.prog 162 = true := by kernel_rfl
theorem g_aumbry_aumbryref01_Digits : goFn Tryz.prog 156 = true := by kernel_rfl
theorem g_internal_strconv_Itoa : goFn Tryz.prog 177 = true := by kernel_rfl
theorem g_internal_strconv_FormatInt : goFn Tryz.prog 179 = true := by kernel_rfl
theorem g_internal_strconv_small : goFn Tryz.prog 180 = true := by kernel_rfl
theorem g_internal_strconv_numDigits : goFn Tryz.prog 181 = true := by kernel_rfl
theorem g_internal_strconv_formatBase10 : goFn Tryz.prog 182 = true := by kernel_rfl
theorem g_internal_strconv_log10Pow2 : goFn Tryz.prog 184 = true := by kernel_rfl
theorem g_math_bits_Len64 : goFn Tryz.prog 185 = true := by kernel_rfl
theorem g_internal_strconv_bool2_int : goFn Tryz.prog 186 = true := by kernel_rfl
theorem g_aumbry_code_Get : goFn Tryz.prog 105 = true := by kernel_rfl
theorem g_aumbry_code_TakeNets : goFn Tryz.prog 61 = true := by kernel_rfl
theorem g_aumbry_code_TakeNet : goFn Tryz.prog 104 = true := by kernel_rfl
theorem g_aumbry_code_size : goFn Tryz.prog 132 = true := by kernel_rfl
end Go.Proofs.YtmjmjjkigblbgaaGreatDoor
