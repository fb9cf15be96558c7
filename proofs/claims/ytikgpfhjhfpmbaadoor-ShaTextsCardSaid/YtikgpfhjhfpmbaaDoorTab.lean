/- The tables of Go's library that the program reads; the functions' look-ups. -/
import Derived.Test.YtikgpfhjhfpmbaaDoorRows
import Derived.Test.YtikgpfhjhfpmbaaDoorFRest
import Derived.Test.YtikgpfhjhfpmbaaDoorAuAll
set_option linter.unusedVariables false
set_option linter.unusedSimpArgs false
set_option maxRecDepth 8192
namespace Go.Proofs.YtikgpfhjhfpmbaaDoor
open Go Go.F Go.RowKit

/-- The powers of ten lie in memory as the program's start lays them. -/
def Tabs (H : Hp) : Prop := ∀ i, i < 20 → hcell H 0 i = some (.int .u64 ((10 ^ i : Nat) : Int))
theorem tab_at {H : Hp} (h : Tabs H) (q : Nat) (hq : q < 20) {off : Nat} (ho : off = q) : hcell H 0 off = some (.int .u64 ((10 ^ q : Nat) : Int)) := by subst ho; exact h off hq
theorem Tabs.mono {H G : Hp} (h : Tabs H) (hl : H.le G) : Tabs G := fun i hi => hcell_mono hl (h i hi)
theorem g_aumbry_aumbrykeep_Cut_byte : goFn Tryd.prog 7 = true := by kernel_rfl
theorem g_aumbry_aumbrykeep_Same_byte : goFn Tryd.prog 11 = true := by kernel_rfl
theorem g_aumbry_sha_Tagged : goFn Tryd.prog 9 = true := by kernel_rfl
theorem g_aumbry_aumbryref01_Tagged : goFn Tryd.prog 15 = true := by kernel_rfl
theorem g_aumbry_sha_Sum : goFn Tryd.prog 13 = true := by kernel_rfl
theorem g_aumbry_aumbryref01_Sum : goFn Tryd.prog 27 = true := by kernel_rfl
theorem g_aumbry_sha_Text : goFn Tryd.prog 12 = true := by kernel_rfl
theorem g_aumbry_aumbryref01_Text : goFn Tryd.prog 14 = true := by kernel_rfl
theorem g_aumbry_sha_New : goFn Tryd.prog 22 = true := by kernel_rfl
theorem g_aumbry_sha_Sha_Write : goFn Tryd.prog 23 = true := by kernel_rfl
theorem g_aumbry_sha_Sha_Sum : goFn Tryd.prog 24 = true := by kernel_rfl
theorem g_aumbry_aumbryref01_rounds : goFn Tryd.prog 35 = true := by kernel_rfl
theorem g_aumbry_aumbryref01_Put : goFn Tryd.prog 36 = true := by kernel_rfl
theorem g_aumbry_aumbryref01_turn : goFn Tryd.prog 37 = true := by kernel_rfl
theorem g_aumbry_code_Net : goFn Tryd.prog 20 = true := by kernel_rfl
theorem g_aumbry_code_Nets : goFn Tryd.prog 21 = true := by kernel_rfl
theorem g_aumbry_aumbryref01_Net : goFn Tryd.prog 25 = true := by kernel_rfl
theorem g_aumbry_aumbryref01_Nets : goFn Tryd.prog 26 = true := by kernel_rfl
theorem g_aumbry_sha_begin : goFn Tryd.prog 30 = true := by kernel_rfl
theorem g_aumbry_sha_table : goFn Tryd.prog 31 = true := by kernel_rfl
theorem g_aumbry_sha_mix : goFn Tryd.prog 32 = true := by kernel_rfl
theorem g_aumbry_code_Put : goFn Tryd.prog 33 = true := by kernel_rfl
theorem g_strconv_Itoa : goFn Tryd.prog 29 = true := by kernel_rfl
theorem g_aumbry_aumbryref01_Digits : goFn Tryd.prog 34 = true := by kernel_rfl
theorem g_math_bits_RotateLeft32 : goFn Tryd.prog 40 = true := by kernel_rfl
theorem g_internal_strconv_Itoa : goFn Tryd.prog 39 = true := by kernel_rfl
theorem g_internal_strconv_FormatInt : goFn Tryd.prog 41 = true := by kernel_rfl
theorem g_internal_strconv_small : goFn Tryd.prog 42 = true := by kernel_rfl
theorem g_internal_strconv_numDigits : goFn Tryd.prog 43 = true := by kernel_rfl
theorem g_internal_strconv_formatBase10 : goFn Tryd.prog 44 = true := by kernel_rfl
theorem g_internal_strconv_formatBits : goFn Tryd.prog 45 = true := by kernel_rfl
theorem g_internal_strconv_log10Pow2 : goFn Tryd.prog 46 = true := by kernel_rfl
theorem g_math_bits_Len64 : goFn Tryd.prog 47 = true := by kernel_rfl
theorem g_internal_strconv_bool2_int : goFn Tryd.prog 48 = true := by kernel_rfl
theorem g_internal_strconv_isPowerOfTwo : goFn Tryd.prog 49 = true := by kernel_rfl
theorem g_math_bits_TrailingZeros : goFn Tryd.prog 50 = true := by kernel_rfl
theorem g_math_bits_TrailingZeros32 : goFn Tryd.prog 51 = true := by kernel_rfl
theorem g_math_bits_TrailingZeros64 : goFn Tryd.prog 52 = true := by kernel_rfl
theorem g_aumbry_aumbrykeep_Copy_byte : goFn Tryd.prog 10 = true := by kernel_rfl
theorem g_aumbry_aumbrylaw02_ShaShort : goFn Tryd.prog 3 = true := by kernel_rfl
theorem g_aumbry_aumbrylaw02_ShaTags : goFn Tryd.prog 4 = true := by kernel_rfl
theorem g_aumbry_aumbrylaw02_ShaTexts : goFn Tryd.prog 5 = true := by kernel_rfl
theorem g_aumbry_aumbrylaw02_wakes : goFn Tryd.prog 6 = true := by kernel_rfl
theorem g_aumbry_sha_Short : goFn Tryd.prog 8 = true := by kernel_rfl
theorem g_aumbry_aumbryref01_Short : goFn Tryd.prog 16 = true := by kernel_rfl
theorem g_aumbry_aumbrylaw02_cutRows : goFn Tryd.prog 17 = true := by kernel_rfl
theorem g_aumbry_aumbrykeep_Rows_byte : goFn Tryd.prog 18 = true := by kernel_rfl
theorem g_aumbry_code_TakeNets : goFn Tryd.prog 19 = true := by kernel_rfl
theorem g_aumbry_code_TakeNet : goFn Tryd.prog 28 = true := by kernel_rfl
theorem g_aumbry_code_size : goFn Tryd.prog 38 = true := by kernel_rfl
end Go.Proofs.YtikgpfhjhfpmbaaDoor
