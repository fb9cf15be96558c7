/- The tables of Go's library that the program reads; the functions' look-ups. -/
import Derived.Test.YtmjmjjkigblbgaaDoorRows
import Derived.Test.YtmjmjjkigblbgaaDoorFRest
import Derived.Test.YtmjmjjkigblbgaaDoorAuAll
set_option linter.unusedVariables false
set_option linter.unusedSimpArgs false
set_option maxRecDepth 8192
namespace Go.Proofs.YtmjmjjkigblbgaaDoor
open Go Go.F Go.RowKit

def Tabs (H : Hp) : Prop := ∀ i, i < 20 → hcell H 0 i = some (.int .u64 ((10 ^ i : Nat) : Int))
theorem tab_at {H : Hp} (h : Tabs H) (q : Nat) (hq : q < 20) {off : Nat} (ho : off = q) : hcell H 0 off = some (.int .u64 ((10 ^ q : Nat) : Int)) := by subst ho; exact h off hq
theorem Tabs.mono {H G : Hp} (h : Tabs H) (hl : H.le G) : Tabs G := fun i hi => hcell_mono hl (h i hi)
theorem g_aumbry_aumbrykeep_Cut_byte : goFn Tryd.prog 9 = true := by kernel_rfl
theorem g_aumbry_aumbryref07_Leaf : goFn Tryd.prog 89 = true := by kernel_rfl
theorem g_aumbry_aumbryref07_Root : goFn Tryd.prog 67 = true := by kernel_rfl
theorem g_aumbry_aumbryref07_Node : goFn Tryd.prog 111 = true := by kernel_rfl
theorem g_aumbry_aumbryref07_Pad : goFn Tryd.prog 110 = true := by kernel_rfl
theorem g_aumbry_aumbrykeep_Within : goFn Tryd.prog 19 = true := by kernel_rfl
theorem g_aumbry_aumbrykeep_Same_aumbry_api_Hash : goFn Tryd.prog 57 = true := by kernel_rfl
theorem g_aumbry_aumbryref07_Proof : goFn Tryd.prog 104 = true := by kernel_rfl
theorem g_aumbry_aumbrykeep_Copy_aumbry_api_Hash : goFn Tryd.prog 54 = true := by kernel_rfl
theorem g_aumbry_aumbrykeep_Same_byte : goFn Tryd.prog 13 = true := by kernel_rfl
theorem g_aumbry_sha_Tagged : goFn Tryd.prog 51 = true := by kernel_rfl
theorem g_aumbry_aumbryref01_Tagged : goFn Tryd.prog 52 = true := by kernel_rfl
theorem g_aumbry_aumbryref07_row : goFn Tryd.prog 87 = true := by kernel_rfl
theorem g_aumbry_aumbryref07_up : goFn Tryd.prog 88 = true := by kernel_rfl
theorem g_aumbry_sha_Sum : goFn Tryd.prog 79 = true := by kernel_rfl
theorem g_aumbry_aumbryref01_Sum : goFn Tryd.prog 81 = true := by kernel_rfl
theorem g_aumbry_aumbryref07_nodeText : goFn Tryd.prog 122 = true := by kernel_rfl
theorem g_bytes_Equal : goFn Tryd.prog 43 = true := by kernel_rfl
theorem g_aumbry_sha_Text : goFn Tryd.prog 80 = true := by kernel_rfl
theorem g_aumbry_aumbryref01_Text : goFn Tryd.prog 82 = true := by kernel_rfl
theorem g_aumbry_aumbryref01_Put : goFn Tryd.prog 50 = true := by kernel_rfl
theorem g_aumbry_code_Net : goFn Tryd.prog 77 = true := by kernel_rfl
theorem g_aumbry_code_Nets : goFn Tryd.prog 47 = true := by kernel_rfl
theorem g_aumbry_aumbryref01_Net : goFn Tryd.prog 78 = true := by kernel_rfl
theorem g_aumbry_aumbryref01_Nets : goFn Tryd.prog 49 = true := by kernel_rfl
theorem g_aumbry_code_Put : goFn Tryd.prog 48 = true := by kernel_rfl
theorem g_strconv_Itoa : goFn Tryd.prog 94 = true := by kernel_rfl
theorem g_aumbry_aumbryref01_Digits : goFn Tryd.prog 95 = true := by kernel_rfl
theorem g_internal_strconv_Itoa : goFn Tryd.prog 112 = true := by kernel_rfl
theorem g_internal_strconv_FormatInt : goFn Tryd.prog 123 = true := by kernel_rfl
theorem g_internal_strconv_small : goFn Tryd.prog 128 = true := by kernel_rfl
theorem g_internal_strconv_numDigits : goFn Tryd.prog 129 = true := by kernel_rfl
theorem g_internal_strconv_formatBase10 : goFn Tryd.prog 130 = true := by kernel_rfl
theorem g_internal_strconv_log10Pow2 : goFn Tryd.prog 137 = true := by kernel_rfl
theorem g_math_bits_Len64 : goFn Tryd.prog 138 = true := by kernel_rfl
theorem g_internal_strconv_bool2_int : goFn Tryd.prog 139 = true := by kernel_rfl
theorem g_aumbry_aumbrykeep_Copy_byte : goFn Tryd.prog 28 = true := by kernel_rfl
theorem g_aumbry_code_Get : goFn Tryd.prog 75 = true := by kernel_rfl
theorem g_aumbry_aumbrykeep_Rows_byte : goFn Tryd.prog 58 = true := by kernel_rfl
theorem g_aumbry_code_TakeNets : goFn Tryd.prog 40 = true := by kernel_rfl
theorem g_aumbry_code_TakeNet : goFn Tryd.prog 74 = true := by kernel_rfl
theorem g_aumbry_code_size : goFn Tryd.prog 93 = true := by kernel_rfl
end Go.Proofs.YtmjmjjkigblbgaaDoor
